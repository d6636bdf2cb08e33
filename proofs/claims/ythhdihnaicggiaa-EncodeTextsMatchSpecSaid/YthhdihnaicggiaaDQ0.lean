/- What these functions answer, in plain Lean. No conditions beyond those in each theorem. -/
import Derived.Test.YthhdihnaicggiaaDP3
import Derived.Laws.BitsLemmas
import Derived.Lib.Bytes
import Derived.Sort.Walk0
import Derived.Lib.Strings
import Derived.Lib.ItoaNum
namespace Go.Proofs.Ythhdihnaicggiaa.D
open Go.RowKit Go.Proofs.YthhdihnaicggiaaW.PrintWords Go.Proofs.YthhdihnaicggiaaW.PrintLast Go.Proofs.YthhdihnaicggiaaW.PrintMore
set_option linter.unusedVariables false
set_option linter.unusedSimpArgs false
theorem ev_uniq {α : Type} {g : Nat → Option α} {a b : α} (h : Ev g a) (h' : Ev g b) : a = b := by
 obtain ⟨K, h⟩ := h
 obtain ⟨K', h'⟩ := h'
 have h1 := h (max K K') (by omega)
 have h2 := h' (max K K') (by omega)
 exact Option.some.inj (h1.symm.trans h2)
theorem ev_pos {α : Type} {c : Prop} [Decidable c] {A B : Nat → Option α} {r : α} (hc : c) (h : Ev A r) : Ev (fun k => if c then A k else B k) r := h.congr (fun k => by rw [if_pos hc])
theorem ev_neg {α : Type} {c : Prop} [Decidable c] {A B : Nat → Option α} {r : α} (hc : ¬ c) (h : Ev B r) : Ev (fun k => if c then A k else B k) r := h.congr (fun k => by rw [if_neg hc])
theorem ev_some {α : Type} (r : α) : Ev (fun _ => some r) r := Ev.now r
theorem ev_eq {α : Type} {g : Nat → Option α} {a b : α} (h : Ev g a) (e : a = b) : Ev g b := e ▸ h
theorem w64 {n : Int} (h0 : -9223372036854775808 ≤ n) (h1 : n ≤ 9223372036854775807) : wrap64 n = n := by unfold wrap64; omega
theorem u64w (n : Int) : IntKind.u64.wrap n = n % 18446744073709551616 := by simp [IntKind.wrap, IntKind.bits, IntKind.signed]
theorem and127 {x : Int} (h0 : 0 ≤ x) (h1 : x < 9223372036854775808) : Go.bits .and .i64 x 127 = x % 128 :=
 bits_mask .i64 63 (by decide) (fun n a b => by rw [IntKind.wrap_i64]; omega) 7 (by decide) x h0 h1
theorem and127u {x : Int} (h0 : 0 ≤ x) (h1 : x < 18446744073709551616) : Go.bits .and .u64 x 127 = x % 128 :=
 bits_mask .u64 64 (by decide) (fun n a b => by rw [u64w]; omega) 7 (by decide) x h0 h1
theorem or128u {x : Int} (h0 : 0 ≤ x) (h1 : x < 128) : Go.bits .or .u64 x 128 = x + 128 := by
 obtain ⟨a, rfl⟩ := Int.eq_ofNat_of_zero_le h0
 have ha : a < 2 ^ 7 := by omega
 have := (bits_nat .u64 64 (by decide) (fun n a b => by rw [u64w]; omega) a 128 (by omega) (by decide)).2
 have h2 : 128 + a = 128 ||| a := by
  have := Nat.two_pow_add_eq_or_of_lt ha 1
  simpa using this
 rw [show ((128 : Int)) = ((128 : Nat) : Int) from rfl, this, Nat.or_comm, ← h2]
 omega
theorem or128i {x : Int} (h0 : 0 ≤ x) (h1 : x < 128) : Go.bits .or .i64 x 128 = x + 128 := by
 obtain ⟨a, rfl⟩ := Int.eq_ofNat_of_zero_le h0
 have ha : a < 2 ^ 7 := by omega
 have := (bits_nat .i64 63 (by decide) (fun n a b => by rw [IntKind.wrap_i64]; omega) a 128 (by omega) (by decide)).2
 have h2 : 128 + a = 128 ||| a := by
  have := Nat.two_pow_add_eq_or_of_lt ha 1
  simpa using this
 rw [show ((128 : Int)) = ((128 : Nat) : Int) from rfl, this, Nat.or_comm, ← h2]
 omega
/-- A count's bytes. -/
def cnt (n : Nat) : List Int := if h : n > 127 then ((n % 128 + 128 : Nat) : Int) :: cnt (n / 128) else [(n : Int)]
termination_by n
decreasing_by omega
theorem cnt_big {n : Nat} (h : n > 127) : cnt n = ((n % 128 + 128 : Nat) : Int) :: cnt (n / 128) := by rw [cnt]; simp [h]
theorem cnt_small {n : Nat} (h : ¬ n > 127) : cnt n = [(n : Int)] := by rw [cnt]; simp [h]
theorem cnt_pos (n : Nat) : 0 < (cnt n).length := by
 by_cases h : n > 127
 ·rw [cnt_big h]; simp
 ·rw [cnt_small h]; simp
theorem cnt_len (m : Nat) : ∀ n, n < 128 ^ (m + 1) → (cnt n).length ≤ m + 1 := by
 induction m with
 | zero =>
  intro n hn
  rw [cnt_small (by omega)]
  simp
 | succ m ih =>
  intro n hn
  by_cases h : n > 127
  ·rw [cnt_big h, List.length_cons]
   have : n / 128 < 128 ^ (m + 1) := Nat.div_lt_of_lt_mul (by rw [Nat.pow_succ, Nat.mul_comm] at hn; exact hn)
   have := ih _ this
   omega
  ·rw [cnt_small h]; simp
theorem cnt_len10 {n : Nat} (h : n < 18446744073709551616) : (cnt n).length ≤ 10 := cnt_len 9 n (Nat.lt_of_lt_of_le h (by decide))
theorem cnt_byte (n : Nat) : ∀ x ∈ cnt n, 0 ≤ x ∧ x ≤ 255 := by
 induction n using Nat.strongRecOn with
 | _ n ih =>
  by_cases h : n > 127
  ·rw [cnt_big h]
   intro x hx
   rcases List.mem_cons.1 hx with rfl | hx
   ·omega
   ·exact ih (n / 128) (by omega) x hx
  ·rw [cnt_small h]
   intro x hx
   rw [List.mem_singleton.1 hx]
   omega
theorem count_l0 (m : Nat) : ∀ (n : Nat) (l : List Int), n < 128 ^ (m + 1) → n < 18446744073709551616 → l.length + m + 1 ≤ 140737488355328 → Ev (fun k => e_count.l0 k l (n : Int)) (l ++ cnt n) := by
 induction m with
 | zero =>
  intro n l hn hb hl
  refine Ev.step (fun k => by rw [e_count.l0]) ?_
  refine ev_neg (by omega) (ev_pos (by omega) ?_)
  rw [cnt_small (by omega), Int.emod_eq_of_lt (by omega) (by omega)]
  exact ev_some _
 | succ m ih =>
  intro n l hn hb hl
  refine Ev.step (fun k => by rw [e_count.l0]) ?_
  by_cases h : n > 127
  ·refine ev_pos (by omega) (ev_pos (by omega) ?_)
   rw [and127u (by omega) (by omega), or128u (by omega) (by omega), cnt_big h]
   have hd : n / 128 < 128 ^ (m + 1) := Nat.div_lt_of_lt_mul (by rw [Nat.pow_succ, Nat.mul_comm] at hn; exact hn)
   have e1 : ((n : Int) % 128 + 128) % 256 = ((n % 128 + 128 : Nat) : Int) := by omega
   have e2 : (n : Int) / 128 = ((n / 128 : Nat) : Int) := by omega
   rw [e1, e2]
   have := ih (n / 128) (l ++ [((n % 128 + 128 : Nat) : Int)]) hd (by omega) (by simp; omega)
   simpa using this
  ·refine ev_neg (by omega) (ev_pos (by omega) ?_)
   rw [cnt_small h, Int.emod_eq_of_lt (by omega) (by omega)]
   exact ev_some _
theorem count_ev {n : Nat} {l : List Int} (hn : n < 18446744073709551616) (hl : l.length ≤ 140737488000000) : Ev (fun k => e_count.f k l (n : Int)) (l ++ cnt n) :=
 count_l0 9 n l (Nat.lt_of_lt_of_le hn (by decide)) hn (by omega)
theorem rcount_l0 (m : Nat) : ∀ (n : Nat) (l : List Int), n < 128 ^ (m + 1) → n < 9223372036854775808 → l.length + m + 1 ≤ 140737488355328 → Ev (fun k => q_count.l0 k (n : Int) l) (l ++ cnt n) := by
 induction m with
 | zero =>
  intro n l hn hb hl
  refine Ev.step (fun k => by rw [q_count.l0]) ?_
  refine ev_neg (by omega) (ev_pos (by omega) ?_)
  rw [cnt_small (by omega), Int.emod_eq_of_lt (by omega) (by omega)]
  exact ev_some _
 | succ m ih =>
  intro n l hn hb hl
  refine Ev.step (fun k => by rw [q_count.l0]) ?_
  by_cases h : n > 127
  ·refine ev_pos (by omega) (ev_pos (by omega) ?_)
   rw [and127 (by omega) (by omega), or128i (by omega) (by omega), cnt_big h]
   have hd : n / 128 < 128 ^ (m + 1) := Nat.div_lt_of_lt_mul (by rw [Nat.pow_succ, Nat.mul_comm] at hn; exact hn)
   have e1 : ((n : Int) % 128 + 128) % 256 = ((n % 128 + 128 : Nat) : Int) := by omega
   have e2 : (n : Int) / 128 = ((n / 128 : Nat) : Int) := by omega
   rw [e1, e2]
   have := ih (n / 128) (l ++ [((n % 128 + 128 : Nat) : Int)]) hd (by omega) (by simp; omega)
   simpa using this
  ·refine ev_neg (by omega) (ev_pos (by omega) ?_)
   rw [cnt_small h, Int.emod_eq_of_lt (by omega) (by omega)]
   exact ev_some _
theorem rcount_ev {n : Nat} (hn : n < 9223372036854775808) : Ev (fun k => q_count.f k (n : Int)) (cnt n) := by
 have := rcount_l0 9 n [] (Nat.lt_of_lt_of_le hn (by decide)) hn (by simp)
 rw [List.nil_append] at this
 exact this
theorem rdD (x : List Int) (i : Nat) : rd x (i : Int) = x.getD i 0 := by simp [rd]
theorem getD_drop_head {α : Type} {x : List α} {i : Nat} {d : α} (h : i < x.length) : x.drop i = x.getD i d :: x.drop (i + 1) := by
 rw [List.drop_eq_getElem_cons h]
 simp [List.getD, h]
theorem bytesOf_inj : ∀ {a b : List Int}, (∀ x ∈ a, 0 ≤ x ∧ x ≤ 255) → (∀ x ∈ b, 0 ≤ x ∧ x ≤ 255) → Lib.bytesOf a = Lib.bytesOf b → a = b
 | [], [], _, _, _ => rfl
 | [], _ :: _, _, _, h => by simp [Lib.bytesOf] at h
 | _ :: _, [], _, _, h => by simp [Lib.bytesOf] at h
 | x :: a, y :: b, ha, hb, h => by
  simp only [Lib.bytesOf, List.map_cons, List.cons.injEq] at h
  have h1 := ha x (List.mem_cons_self ..)
  have h2 := hb y (List.mem_cons_self ..)
  have h3 := congrArg UInt8.toNat h.1
  simp only [UInt8.toNat_ofNat'] at h3
  have h4 := bytesOf_inj (fun z hz => ha z (List.mem_cons_of_mem _ hz)) (fun z hz => hb z (List.mem_cons_of_mem _ hz)) h.2
  rw [h4, show x = y by omega]
theorem bytesEqual_eq {a b : List Int} (ha : ∀ x ∈ a, 0 ≤ x ∧ x ≤ 255) (hb : ∀ x ∈ b, 0 ≤ x ∧ x ≤ 255) : bytes_Equal.f a b = some (decide (a = b)) := by
 unfold bytes_Equal.f
 rw [Lib.strOfNums_toList, Lib.strOfNums_toList]
 by_cases h : a = b
 ·subst h
  simp
 ·have h' : Lib.bytesOf a ≠ Lib.bytesOf b := fun h' => h (bytesOf_inj ha hb h')
  simp [h, h']
theorem eqB_l0 (x y : List Int) (hl : x.length = y.length) (hb : x.length ≤ 140737488355328) (d : Nat) : ∀ i : Nat, i ≤ x.length → x.length - i ≤ d → Ev (fun k => s_Equalb.l0 k x y (x.length : Int) (i : Int)) (decide (x.drop i = y.drop i)) := by
 induction d with
 | zero =>
  intro i hi hd
  refine Ev.step (fun k => by rw [s_Equalb.l0]) (ev_neg (by omega) ?_)
  rw [List.drop_eq_nil_of_le (show x.length ≤ i by omega), List.drop_eq_nil_of_le (show y.length ≤ i by omega)]
  exact ev_some _
 | succ d ih =>
  intro i hi hd
  refine Ev.step (fun k => by rw [s_Equalb.l0]) ?_
  by_cases h : i < x.length
  ·refine ev_pos (by omega) (ev_pos (by omega) (ev_pos (by omega) (ev_pos (by omega) ?_)))
   rw [rdD, rdD, getD_drop_head (d := 0) h, getD_drop_head (d := 0) (show i < y.length by omega)]
   by_cases e : x.getD i 0 = y.getD i 0
   ·refine ev_pos e ?_
    rw [w64 (by omega) (by omega)]
    exact ev_eq (ih (i + 1) (by omega) (by omega)) (by rw [e]; simp)
   ·exact ev_neg e (ev_eq (ev_some _) (by simp only [List.cons.injEq, e, false_and, decide_false]))
  ·refine ev_neg (by omega) ?_
   rw [List.drop_eq_nil_of_le (show x.length ≤ i by omega), List.drop_eq_nil_of_le (show y.length ≤ i by omega)]
   exact ev_some _
theorem eqB_ev {x y : List Int} (hb : x.length ≤ 140737488355328) : Ev (fun k => s_Equalb.f k x y) (decide (x = y)) := by
 unfold s_Equalb.f
 by_cases hl : x.length = y.length
 ·exact ev_pos (by omega) (eqB_l0 x y hl hb _ 0 (by omega) (Nat.le_refl _))
 ·exact ev_neg (by omega) (ev_eq (ev_some _) (by
   have : x ≠ y := fun h => hl (by rw [h])
   simp [this]))
/-- What a count's bytes are, read: at most m more of them, i read. -/
def rc : Nat → Nat → Int → List Int → Int × List Int × Bool
 | 0, _, _, s => (0, s, true)
 | _ + 1, _, v, [] => (v, [], true)
 | m + 1, i, v, b :: t => if b < 128 then (v + b % 128 * 128 ^ i, t, false) else rc m (i + 1) (v + b % 128 * 128 ^ i) t
theorem pw7 (i : Nat) : (128 : Nat) ^ i = 2 ^ (7 * i) := by rw [Nat.pow_mul]
theorem orshl {v b : Int} {i : Nat} (h0 : 0 ≤ v) (hv : v < 128 ^ i) (b0 : 0 ≤ b) (b1 : b ≤ 255) (hi : i < 8) : Go.bits .or .i64 v (shl .i64 (Go.bits .and .i64 b 127) ((7 * i : Nat) : Int)) = v + b % 128 * 128 ^ i := by
 rw [and127 b0 (by omega)]
 obtain ⟨a, rfl⟩ := Int.eq_ofNat_of_zero_le h0
 obtain ⟨c, hc⟩ := Int.eq_ofNat_of_zero_le (show 0 ≤ b % 128 by omega)
 have hc1 : c < 128 := by omega
 rw [hc]
 have ha : a < 2 ^ (7 * i) := by
  rw [← pw7]
  exact_mod_cast hv
 have hp : (2 : Nat) ^ (7 * i) ≤ 2 ^ 49 := Nat.pow_le_pow_right (by omega) (by omega)
 have hm : 2 ^ (7 * i) * c ≤ 2 ^ 49 * 127 := Nat.mul_le_mul hp (by omega)
 have e : shl .i64 ((c : Nat) : Int) ((7 * i : Nat) : Int) = ((2 ^ (7 * i) * c : Nat) : Int) := by
  unfold shl
  rw [Int.toNat_natCast, Nat.min_eq_left (by show 7 * i ≤ 64; omega)]
  have e2 : (c : Int) * 2 ^ (7 * i) = ((2 ^ (7 * i) * c : Nat) : Int) := by
   rw [Int.natCast_mul, Int.natCast_pow, Int.mul_comm]
   rfl
  rw [e2, IntKind.wrap_i64]
  omega
 rw [e, (bits_nat .i64 63 (by decide) (fun n a b => by rw [IntKind.wrap_i64]; omega) a _ (by omega) (by omega)).2, Nat.or_comm, ← Nat.two_pow_add_eq_or_of_lt ha c]
 rw [show (128 : Int) ^ i = ((2 ^ (7 * i) : Nat) : Int) by rw [← pw7, Int.natCast_pow]; rfl]
 rw [Int.natCast_add, Int.natCast_mul, Int.mul_comm, Int.add_comm]
theorem v_step {v b : Int} {i : Nat} (h0 : 0 ≤ v) (hv : v < 128 ^ i) : 0 ≤ v + b % 128 * 128 ^ i ∧ v + b % 128 * 128 ^ i < 128 ^ (i + 1) := by
 have hp : (0 : Int) < 128 ^ i := Int.pow_pos (by omega)
 have h1 : (0 : Int) ≤ b % 128 * 128 ^ i := Int.mul_nonneg (by omega) (by omega)
 have h2 : b % 128 * 128 ^ i ≤ 127 * 128 ^ i := Int.mul_le_mul_of_nonneg_right (by omega) (by omega)
 rw [Int.pow_succ]
 omega
theorem byte_nil : er_byte.f [] false = some (0, [], true) := by simp [er_byte.f, wrap64]
theorem byte_cons {b : Int} {t : List Int} (h0 : 0 ≤ b) (h1 : b ≤ 255) : er_byte.f (b :: t) false = some (b, t, false) := by
 simp [er_byte.f, w64 (show -9223372036854775808 ≤ b by omega) (show b ≤ 9223372036854775807 by omega)]
theorem orshl0 {v : Int} {i : Nat} (h0 : 0 ≤ v) (hv : v < 128 ^ i) (hi : i < 8) : Go.bits .or .i64 v (shl .i64 (Go.bits .and .i64 0 127) ((7 * i : Nat) : Int)) = v := by
 rw [orshl h0 hv (by omega) (by omega) hi]; simp
theorem rc_ev (m : Nat) : ∀ (i : Nat) (v : Int) (s : List Int), i + m = 8 → 0 ≤ v → v < 128 ^ i → (∀ x ∈ s, 0 ≤ x ∧ x ≤ 255) → Ev (fun k => er_count.l0 k v (i : Int) s false) (rc m i v s) := by
 induction m with
 | zero =>
  intro i v s hi h0 hv hs
  refine Ev.step (fun k => by rw [er_count.l0]) (ev_neg (by omega) ?_)
  exact ev_some _
 | succ m ih =>
  intro i v s hi h0 hv hs
  have e7 : wrap64 (7 * (i : Int)) = ((7 * i : Nat) : Int) := by rw [w64 (by omega) (by omega)]; omega
  refine Ev.step (fun k => by rw [er_count.l0]) (ev_pos (by omega) ?_)
  cases s with
  | nil =>
   rw [byte_nil, e7]
   refine Ev.bind (ev_some _) (ev_pos (by omega) (ev_pos (show (0 : Int) < 128 by omega) ?_))
   show Ev (fun k => some (Go.bits .or .i64 v (shl .i64 (Go.bits .and .i64 0 127) ((7 * i : Nat) : Int)), ([] : List Int), true)) (rc (m + 1) i v [])
   rw [orshl0 h0 hv (by omega)]
   exact ev_some _
  | cons b t =>
   have hb := hs b (List.mem_cons_self ..)
   rw [byte_cons hb.1 hb.2, e7]
   refine Ev.bind (ev_some _) (ev_pos (by omega) ?_)
   show Ev (fun k => if b < 128 then some (Go.bits .or .i64 v (shl .i64 (Go.bits .and .i64 b 127) ((7 * i : Nat) : Int)), t, false) else er_count.l0 k (Go.bits .or .i64 v (shl .i64 (Go.bits .and .i64 b 127) ((7 * i : Nat) : Int))) (wrap64 ((i : Int) + 1)) t false) (rc (m + 1) i v (b :: t))
   rw [orshl h0 hv hb.1 hb.2 (by omega)]
   by_cases hlt : b < 128
   ·exact ev_pos hlt (ev_eq (ev_some _) (by rw [rc, if_pos hlt]))
   ·refine ev_neg hlt ?_
    rw [rc, if_neg hlt, w64 (by omega) (by omega)]
    have hst := v_step (b := b) h0 hv
    exact ih (i + 1) _ t (by omega) hst.1 hst.2 (fun x hx => hs x (List.mem_cons_of_mem _ hx))
theorem icount_ev {s : List Int} (hs : ∀ x ∈ s, 0 ≤ x ∧ x ≤ 255) : Ev (fun k => er_count.f k s false) (rc 8 0 0 s) :=
 rc_ev 8 0 0 s rfl (by omega) (by simp) hs
theorem rc_val (m : Nat) : ∀ (i : Nat) (v : Int) (s : List Int), 0 ≤ v → v < 128 ^ i → 0 ≤ (rc m i v s).1 ∧ (rc m i v s).1 < 128 ^ (i + m) := by
 induction m with
 | zero =>
  intro i v s h0 hv
  rw [rc]
  exact ⟨by omega, Int.pow_pos (by omega)⟩
 | succ m ih =>
  intro i v s h0 hv
  have up : ∀ j : Nat, i ≤ j → (128 : Int) ^ i ≤ 128 ^ j := fun j hj => by
   have := Nat.pow_le_pow_right (n := 128) (by omega) hj
   exact_mod_cast this
  cases s with
  | nil =>
   rw [rc]
   have := up (i + (m + 1)) (by omega)
   exact ⟨h0, by show v < _; omega⟩
  | cons b t =>
   have hst := v_step (b := b) h0 hv
   rw [rc]
   split
   ·have h2 : (128 : Int) ^ (i + 1) ≤ 128 ^ (i + (m + 1)) := by
     have := Nat.pow_le_pow_right (n := 128) (by omega) (show i + 1 ≤ i + (m + 1) by omega)
     exact_mod_cast this
    exact ⟨hst.1, by show _ < _; omega⟩
   ·have := ih (i + 1) _ t hst.1 hst.2
    rw [show i + (m + 1) = i + 1 + m by omega]
    exact this
theorem rc_suf (m : Nat) : ∀ (i : Nat) (v : Int) (s : List Int), ∃ n, (rc m i v s).2.1 = s.drop n ∧ (0 < m → s ≠ [] → 0 < n ∧ (s.drop n).length < s.length) := by
 induction m with
 | zero => exact fun i v s => ⟨0, by simp [rc], fun h => by omega⟩
 | succ m ih =>
  intro i v s
  cases s with
  | nil => exact ⟨0, by simp [rc], fun _ h => absurd rfl h⟩
  | cons b t =>
   rw [rc]
   split
   ·exact ⟨1, by simp, fun _ _ => by simp⟩
   ·obtain ⟨n, h, _⟩ := ih (i + 1) (v + b % 128 * 128 ^ i) t
    exact ⟨n + 1, by rw [h]; simp, fun _ _ => by simp; omega⟩
theorem rc_cnt (m : Nat) : ∀ (i : Nat) (v : Int) (n : Nat) (rest : List Int), n < 128 ^ (m + 1) → rc (m + 1) i v (cnt n ++ rest) = (v + n * 128 ^ i, rest, false) := by
 induction m with
 | zero =>
  intro i v n rest hn
  rw [cnt_small (by omega), List.singleton_append, rc, if_pos (by omega), Int.emod_eq_of_lt (by omega) (by omega)]
 | succ m ih =>
  intro i v n rest hn
  by_cases h : n > 127
  ·rw [cnt_big h, List.cons_append, rc, if_neg (by omega)]
   have hd : n / 128 < 128 ^ (m + 1) := Nat.div_lt_of_lt_mul (by rw [Nat.pow_succ, Nat.mul_comm] at hn; exact hn)
   rw [ih (i + 1) _ (n / 128) rest hd]
   have e1 : ((n % 128 + 128 : Nat) : Int) % 128 = ((n % 128 : Nat) : Int) := by omega
   rw [e1, Int.pow_succ, ← Int.mul_assoc, Int.mul_right_comm, Int.add_assoc, ← Int.add_mul]
   rw [show ((n % 128 : Nat) : Int) + ((n / 128 : Nat) : Int) * 128 = (n : Int) by omega]
  ·rw [cnt_small h, List.singleton_append, rc, if_pos (by omega), Int.emod_eq_of_lt (by omega) (by omega)]
theorem rc_cnt8 {n : Nat} (rest : List Int) (hn : n < 72057594037927936) : rc 8 0 0 (cnt n ++ rest) = ((n : Int), rest, false) := by
 rw [rc_cnt 7 0 0 n rest (by omega)]
 simp
theorem rbyte_nil : q_reader_byte.f [] false = some (0, [], true) := by simp [q_reader_byte.f, wrap64]
theorem rbyte_cons {b : Int} {t : List Int} (h0 : 0 ≤ b) (h1 : b ≤ 255) : q_reader_byte.f (b :: t) false = some (b, t, false) := by
 simp [q_reader_byte.f, w64 (show -9223372036854775808 ≤ b by omega) (show b ≤ 9223372036854775807 by omega)]
theorem rrc_ev (m : Nat) : ∀ (i : Nat) (v : Int) (s : List Int), i + m = 8 → 0 ≤ v → v < 128 ^ i → (∀ x ∈ s, 0 ≤ x ∧ x ≤ 255) → Ev (fun k => q_reader_count.l0 k v ((7 * i : Nat) : Int) s false) (rc m i v s) := by
 induction m with
 | zero =>
  intro i v s hi h0 hv hs
  refine Ev.step (fun k => by rw [q_reader_count.l0]) (ev_neg (by omega) ?_)
  exact ev_some _
 | succ m ih =>
  intro i v s hi h0 hv hs
  refine Ev.step (fun k => by rw [q_reader_count.l0]) (ev_pos (by omega) ?_)
  cases s with
  | nil =>
   rw [rbyte_nil]
   refine Ev.bind (ev_some _) (ev_pos (by omega) (ev_pos (show (0 : Int) < 128 by omega) ?_))
   show Ev (fun k => some (Go.bits .or .i64 v (shl .i64 (Go.bits .and .i64 0 127) ((7 * i : Nat) : Int)), ([] : List Int), true)) (rc (m + 1) i v [])
   rw [orshl0 h0 hv (by omega)]
   exact ev_some _
  | cons b t =>
   have hb := hs b (List.mem_cons_self ..)
   rw [rbyte_cons hb.1 hb.2]
   refine Ev.bind (ev_some _) (ev_pos (by omega) ?_)
   show Ev (fun k => if b < 128 then some (Go.bits .or .i64 v (shl .i64 (Go.bits .and .i64 b 127) ((7 * i : Nat) : Int)), t, false) else if false = true then some (Go.bits .or .i64 v (shl .i64 (Go.bits .and .i64 b 127) ((7 * i : Nat) : Int)), t, false) else q_reader_count.l0 k (Go.bits .or .i64 v (shl .i64 (Go.bits .and .i64 b 127) ((7 * i : Nat) : Int))) (wrap64 (((7 * i : Nat) : Int) + 7)) t false) (rc (m + 1) i v (b :: t))
   rw [orshl h0 hv hb.1 hb.2 (by omega)]
   by_cases hlt : b < 128
   ·exact ev_pos hlt (ev_eq (ev_some _) (by rw [rc, if_pos hlt]))
   ·refine ev_neg hlt (ev_neg (by simp) ?_)
    rw [rc, if_neg hlt, w64 (by omega) (by omega), show ((7 * i : Nat) : Int) + 7 = ((7 * (i + 1) : Nat) : Int) by omega]
    have hst := v_step (b := b) h0 hv
    exact ih (i + 1) _ t (by omega) hst.1 hst.2 (fun x hx => hs x (List.mem_cons_of_mem _ hx))
theorem rcount2_ev {s : List Int} (hs : ∀ x ∈ s, 0 ≤ x ∧ x ≤ 255) : Ev (fun k => q_reader_count.f k s false) (rc 8 0 0 s) :=
 rrc_ev 8 0 0 s rfl (by omega) (by simp) hs
/-- A number's count. -/
def zig (v : Int) : Nat := if v < 0 then (2 * (-v) - 1).toNat else (2 * v).toNat
/-- A number's bytes. -/
def num (v : Int) : List Int := cnt (zig v)
theorem zig_neg {v : Int} (h : v < 0) : ((zig v : Nat) : Int) = 2 * (-v) - 1 := by unfold zig; rw [if_pos h]; omega
theorem zig_pos {v : Int} (h : ¬ v < 0) : ((zig v : Nat) : Int) = 2 * v := by unfold zig; rw [if_neg h]; omega
theorem zig_lt {v : Int} (h0 : -4000000000000000 ≤ v) (h1 : v ≤ 4000000000000000) : zig v < 72057594037927936 := by unfold zig; split <;> omega
theorem num_len {v : Int} (h0 : -4000000000000000 ≤ v) (h1 : v ≤ 4000000000000000) : (num v).length ≤ 10 := cnt_len10 (Nat.lt_trans (zig_lt h0 h1) (by decide))
theorem num_byte (v : Int) : ∀ x ∈ num v, 0 ≤ x ∧ x ≤ 255 := cnt_byte _
theorem num_pos (v : Int) : 0 < (num v).length := cnt_pos _
theorem number_ev {v : Int} {l : List Int} (h0 : -4000000000000000 ≤ v) (h1 : v ≤ 4000000000000000) (hl : l.length ≤ 140737488000000) : Ev (fun k => e_number.f k l v) (l ++ num v) := by
 unfold e_number.f
 have hz := zig_lt h0 h1
 by_cases h : v < 0
 ·refine ev_pos h (Ev.bind ?_ (ev_some _))
  have e : IntKind.u64.wrap (IntKind.u64.wrap (2 * IntKind.u64.wrap (wrap64 (-v))) - 1) = ((zig v : Nat) : Int) := by
   rw [zig_neg h, u64w, u64w, u64w, w64 (by omega) (by omega)]
   omega
  rw [e]
  exact count_ev (by omega) hl
 ·refine ev_neg h (Ev.bind ?_ (ev_some _))
  have e : IntKind.u64.wrap (2 * IntKind.u64.wrap v) = ((zig v : Nat) : Int) := by
   rw [zig_pos h, u64w, u64w]
   omega
  rw [e]
  exact count_ev (by omega) hl
/-- A number's bits, the highest first. -/
def bitsOf (v : Int) : Nat → List Int
 | 0 => []
 | w + 1 => (v / 2 ^ w % 2) :: bitsOf v w
def byteN (bs : List Int) (i : Nat) : Int :=
 bs.getD (8 * i) 0 * 128 + bs.getD (8 * i + 1) 0 * 64 + bs.getD (8 * i + 2) 0 * 32 + bs.getD (8 * i + 3) 0 * 16 + bs.getD (8 * i + 4) 0 * 8 + bs.getD (8 * i + 5) 0 * 4 + bs.getD (8 * i + 6) 0 * 2 + bs.getD (8 * i + 7) 0
/-- Bits as bytes. -/
def pb (bs : List Int) : List Int := (List.range ((bs.length + 7) / 8)).map (byteN bs)
theorem bitsOf_len (v : Int) (w : Nat) : (bitsOf v w).length = w := by
 induction w with
 | zero => rfl
 | succ w ih => simp [bitsOf, ih]
theorem bitsOf_bit (v : Int) (w : Nat) : ∀ b ∈ bitsOf v w, 0 ≤ b ∧ b ≤ 1 := by
 induction w with
 | zero => simp [bitsOf]
 | succ w ih =>
  intro b hb
  rcases List.mem_cons.1 hb with rfl | hb
  ·omega
  ·exact ih b hb
theorem pb_len (bs : List Int) : (pb bs).length = (bs.length + 7) / 8 := by simp [pb]
theorem getD_bit {bs : List Int} (h : ∀ b ∈ bs, 0 ≤ b ∧ b ≤ 1) (q : Nat) : 0 ≤ bs.getD q 0 ∧ bs.getD q 0 ≤ 1 := by
 by_cases hq : q < bs.length
 ·have := h (bs[q]) (List.getElem_mem hq)
  simpa [List.getD, hq] using this
 ·simp [List.getD, List.getElem?_eq_none (Nat.le_of_not_lt hq)]
theorem getD_out {bs : List Int} {q : Nat} (h : bs.length ≤ q) : bs.getD q 0 = 0 := by simp [List.getD, List.getElem?_eq_none h]
theorem getD_snoc {bs : List Int} {b : Int} {q : Nat} (h : q < bs.length) : (bs ++ [b]).getD q 0 = bs.getD q 0 := by
 simp [List.getD, List.getElem?_append_left h]
theorem getD_last {bs : List Int} {b : Int} : (bs ++ [b]).getD bs.length 0 = b := by simp [List.getD]
theorem byteN_byte {bs : List Int} (h : ∀ b ∈ bs, 0 ≤ b ∧ b ≤ 1) (i : Nat) : 0 ≤ byteN bs i ∧ byteN bs i ≤ 255 := by
 have h0 := getD_bit h (8 * i)
 have h1 := getD_bit h (8 * i + 1)
 have h2 := getD_bit h (8 * i + 2)
 have h3 := getD_bit h (8 * i + 3)
 have h4 := getD_bit h (8 * i + 4)
 have h5 := getD_bit h (8 * i + 5)
 have h6 := getD_bit h (8 * i + 6)
 have h7 := getD_bit h (8 * i + 7)
 unfold byteN
 omega
theorem pb_byte {bs : List Int} (h : ∀ b ∈ bs, 0 ≤ b ∧ b ≤ 1) : ∀ x ∈ pb bs, 0 ≤ x ∧ x ≤ 255 := by
 intro x hx
 obtain ⟨i, _, rfl⟩ := List.mem_map.1 hx
 exact byteN_byte h i
theorem byteN_old {bs : List Int} {b : Int} {i : Nat} (h : i < bs.length / 8) : byteN (bs ++ [b]) i = byteN bs i := by
 unfold byteN
 rw [getD_snoc (by omega), getD_snoc (by omega), getD_snoc (by omega), getD_snoc (by omega), getD_snoc (by omega), getD_snoc (by omega), getD_snoc (by omega), getD_snoc (by omega)]
theorem byteN_new {bs : List Int} {b : Int} : byteN (bs ++ [b]) (bs.length / 8) = byteN bs (bs.length / 8) + b * 2 ^ (7 - bs.length % 8) := by
 have hr : bs.length % 8 < 8 := Nat.mod_lt _ (by omega)
 have hq : bs.length = 8 * (bs.length / 8) + bs.length % 8 := by omega
 have out : ∀ q, bs.length < q → (bs ++ [b]).getD q 0 = bs.getD q 0 := fun q h => by rw [getD_out (by simp; omega), getD_out (by omega)]
 have at_ : (bs ++ [b]).getD (8 * (bs.length / 8) + bs.length % 8) 0 = b := by rw [← hq]; exact getD_last
 have old : bs.getD (8 * (bs.length / 8) + bs.length % 8) 0 = 0 := getD_out (by omega)
 have hc : bs.length % 8 = 0 ∨ bs.length % 8 = 1 ∨ bs.length % 8 = 2 ∨ bs.length % 8 = 3 ∨ bs.length % 8 = 4 ∨ bs.length % 8 = 5 ∨ bs.length % 8 = 6 ∨ bs.length % 8 = 7 := by omega
 have same : ∀ j, j ≠ bs.length % 8 → (bs ++ [b]).getD (8 * (bs.length / 8) + j) 0 = bs.getD (8 * (bs.length / 8) + j) 0 := fun j hj => by
  by_cases h : 8 * (bs.length / 8) + j < bs.length
  ·exact getD_snoc h
  ·exact out _ (by omega)
 unfold byteN
 generalize hI : bs.length / 8 = I at *
 generalize hR : bs.length % 8 = R at *
 rcases hc with rfl | rfl | rfl | rfl | rfl | rfl | rfl | rfl
 ·rw [Nat.add_zero] at at_ old
  have s1 := same 1 (by omega)
  have s2 := same 2 (by omega)
  have s3 := same 3 (by omega)
  have s4 := same 4 (by omega)
  have s5 := same 5 (by omega)
  have s6 := same 6 (by omega)
  have s7 := same 7 (by omega)
  rw [at_, old, s1, s2, s3, s4, s5, s6, s7]
  omega
 ·have s0 := same 0 (by omega); rw [Nat.add_zero] at s0
  have s2 := same 2 (by omega)
  have s3 := same 3 (by omega)
  have s4 := same 4 (by omega)
  have s5 := same 5 (by omega)
  have s6 := same 6 (by omega)
  have s7 := same 7 (by omega)
  rw [at_, old, s0, s2, s3, s4, s5, s6, s7]
  omega
 ·have s0 := same 0 (by omega); rw [Nat.add_zero] at s0
  have s1 := same 1 (by omega)
  have s3 := same 3 (by omega)
  have s4 := same 4 (by omega)
  have s5 := same 5 (by omega)
  have s6 := same 6 (by omega)
  have s7 := same 7 (by omega)
  rw [at_, old, s0, s1, s3, s4, s5, s6, s7]
  omega
 ·have s0 := same 0 (by omega); rw [Nat.add_zero] at s0
  have s1 := same 1 (by omega)
  have s2 := same 2 (by omega)
  have s4 := same 4 (by omega)
  have s5 := same 5 (by omega)
  have s6 := same 6 (by omega)
  have s7 := same 7 (by omega)
  rw [at_, old, s0, s1, s2, s4, s5, s6, s7]
  omega
 ·have s0 := same 0 (by omega); rw [Nat.add_zero] at s0
  have s1 := same 1 (by omega)
  have s2 := same 2 (by omega)
  have s3 := same 3 (by omega)
  have s5 := same 5 (by omega)
  have s6 := same 6 (by omega)
  have s7 := same 7 (by omega)
  rw [at_, old, s0, s1, s2, s3, s5, s6, s7]
  omega
 ·have s0 := same 0 (by omega); rw [Nat.add_zero] at s0
  have s1 := same 1 (by omega)
  have s2 := same 2 (by omega)
  have s3 := same 3 (by omega)
  have s4 := same 4 (by omega)
  have s6 := same 6 (by omega)
  have s7 := same 7 (by omega)
  rw [at_, old, s0, s1, s2, s3, s4, s6, s7]
  omega
 ·have s0 := same 0 (by omega); rw [Nat.add_zero] at s0
  have s1 := same 1 (by omega)
  have s2 := same 2 (by omega)
  have s3 := same 3 (by omega)
  have s4 := same 4 (by omega)
  have s5 := same 5 (by omega)
  have s7 := same 7 (by omega)
  rw [at_, old, s0, s1, s2, s3, s4, s5, s7]
  omega
 ·have s0 := same 0 (by omega); rw [Nat.add_zero] at s0
  have s1 := same 1 (by omega)
  have s2 := same 2 (by omega)
  have s3 := same 3 (by omega)
  have s4 := same 4 (by omega)
  have s5 := same 5 (by omega)
  have s6 := same 6 (by omega)
  rw [at_, old, s0, s1, s2, s3, s4, s5, s6]
  omega
/-- The bits from one on are 0. -/
theorem byteN_dvd (bs : List Int) : byteN bs (bs.length / 8) % 2 ^ (8 - bs.length % 8) = 0 ∧ (bs.length % 8 = 0 → byteN bs (bs.length / 8) = 0) := by
 have hr : bs.length % 8 < 8 := Nat.mod_lt _ (by omega)
 have hq : bs.length = 8 * (bs.length / 8) + bs.length % 8 := by omega
 have old : ∀ j, bs.length % 8 ≤ j → bs.getD (8 * (bs.length / 8) + j) 0 = 0 := fun j h => getD_out (by omega)
 have hc : bs.length % 8 = 0 ∨ bs.length % 8 = 1 ∨ bs.length % 8 = 2 ∨ bs.length % 8 = 3 ∨ bs.length % 8 = 4 ∨ bs.length % 8 = 5 ∨ bs.length % 8 = 6 ∨ bs.length % 8 = 7 := by omega
 unfold byteN
 generalize hI : bs.length / 8 = I at *
 generalize hR : bs.length % 8 = R at *
 have o7 := old 7 (by omega)
 rcases hc with rfl | rfl | rfl | rfl | rfl | rfl | rfl | rfl
 ·have o0 := old 0 (by omega); rw [Nat.add_zero] at o0
  rw [o0, old 1 (by omega), old 2 (by omega), old 3 (by omega), old 4 (by omega), old 5 (by omega), old 6 (by omega), o7]
  exact ⟨by omega, fun _ => by omega⟩
 ·rw [old 1 (by omega), old 2 (by omega), old 3 (by omega), old 4 (by omega), old 5 (by omega), old 6 (by omega), o7]
  exact ⟨by omega, fun h => by omega⟩
 ·rw [old 2 (by omega), old 3 (by omega), old 4 (by omega), old 5 (by omega), old 6 (by omega), o7]
  exact ⟨by omega, fun h => by omega⟩
 ·rw [old 3 (by omega), old 4 (by omega), old 5 (by omega), old 6 (by omega), o7]
  exact ⟨by omega, fun h => by omega⟩
 ·rw [old 4 (by omega), old 5 (by omega), old 6 (by omega), o7]
  exact ⟨by omega, fun h => by omega⟩
 ·rw [old 5 (by omega), old 6 (by omega), o7]
  exact ⟨by omega, fun h => by omega⟩
 ·rw [old 6 (by omega), o7]
  exact ⟨by omega, fun h => by omega⟩
 ·rw [o7]
  exact ⟨by omega, fun h => by omega⟩
theorem pb_get {bs : List Int} {i : Nat} (h : i < (bs.length + 7) / 8) : (pb bs)[i]? = some (byteN bs i) := by simp [pb, h]
/-- One more bit. -/
theorem pb_snoc (bs : List Int) (b : Int) : pb (bs ++ [b]) = (if bs.length % 8 = 0 then pb bs ++ [0] else pb bs).set (bs.length / 8) (byteN bs (bs.length / 8) + b * 2 ^ (7 - bs.length % 8)) := by
 have hd := (byteN_dvd bs).2
 refine List.ext_getElem? fun i => ?_
 rw [List.getElem?_set]
 have hln : ((bs ++ [b]).length + 7) / 8 = bs.length / 8 + 1 := by simp; omega
 have hl2 : (if bs.length % 8 = 0 then pb bs ++ [0] else pb bs).length = bs.length / 8 + 1 := by
  split
  ·rw [List.length_append, pb_len, List.length_singleton]; omega
  ·rw [pb_len]; omega
 by_cases hi : bs.length / 8 = i
 ·subst hi
  rw [if_pos rfl, if_pos (by rw [hl2]; omega), pb_get (by omega), byteN_new]
 ·rw [if_neg hi]
  by_cases hlt : i < bs.length / 8
  ·rw [pb_get (by omega), byteN_old hlt]
   split
   ·rw [List.getElem?_append_left (by rw [pb_len]; omega), pb_get (by omega)]
   ·rw [pb_get (by omega)]
  ·rw [List.getElem?_eq_none (by rw [pb_len]; omega), List.getElem?_eq_none (by rw [hl2]; omega)]
theorem pow7 (r : Nat) : ((2 ^ (7 - r) : Nat) : Int) = 2 ^ (7 - r) ∧ (2 : Nat) ^ (7 - r) ≤ 128 ∧ 0 < (2 : Nat) ^ (7 - r) := by
 refine ⟨by rw [Int.natCast_pow]; rfl, ?_, Nat.pow_pos (by omega)⟩
 exact Nat.le_trans (Nat.pow_le_pow_right (by omega) (show 7 - r ≤ 7 by omega)) (by decide)
theorem pow8 {r : Nat} (h : r < 8) : (2 : Int) ^ (8 - r) = 2 * 2 ^ (7 - r) := by
 rw [show 8 - r = (7 - r) + 1 by omega, Int.pow_succ, Int.mul_comm]
theorem tmod8 (n : Nat) : Int.tmod (n : Int) 8 = ((n % 8 : Nat) : Int) := by rw [Int.tmod_eq_emod_of_nonneg (by omega)]; omega
theorem bit_of {v : Int} {c : Nat} (h0 : 0 ≤ v) (h1 : v < 9223372036854775808) (hc : c ≤ 64) : Go.bits .and .i64 (shr .i64 v (c : Int)) 1 = v / 2 ^ c % 2 := by
 unfold shr
 rw [Int.toNat_natCast, Nat.min_eq_left (show c ≤ IntKind.i64.bits from hc)]
 have hp : (0 : Int) < 2 ^ c := Int.pow_pos (by omega)
 have h2 : 0 ≤ v / 2 ^ c := Int.ediv_nonneg h0 (by omega)
 have h3 : v / 2 ^ c ≤ v := Int.ediv_le_self _ h0
 exact bits_mask .i64 63 (by decide) (fun n a b => by rw [IntKind.wrap_i64]; omega) 1 (by decide) _ h2 (by omega)
theorem or_bit {bs : List Int} (hb : ∀ b ∈ bs, 0 ≤ b ∧ b ≤ 1) {b : Int} (b0 : 0 ≤ b) (b1 : b ≤ 1) : Go.bits .or .u8 (byteN bs (bs.length / 8)) (b * 2 ^ (7 - bs.length % 8)) = byteN bs (bs.length / 8) + b * 2 ^ (7 - bs.length % 8) := by
 have hr : bs.length % 8 < 8 := Nat.mod_lt _ (by omega)
 have hB := byteN_byte hb (bs.length / 8)
 obtain ⟨p1, p2, p3⟩ := pow7 (bs.length % 8)
 have p8 := pow8 hr
 have hy : 0 ≤ b * 2 ^ (7 - bs.length % 8) ∧ b * 2 ^ (7 - bs.length % 8) ≤ 2 ^ (7 - bs.length % 8) := by
  rcases (show b = 0 ∨ b = 1 by omega) with rfl | rfl <;> simp <;> omega
 exact bits_join .u8 8 (by decide) wraps_u8 (8 - bs.length % 8) _ _ hB.1 (byteN_dvd bs).1 (by omega) hy.1 (by omega) (by omega)
theorem or_shl {bs : List Int} (hb : ∀ b ∈ bs, 0 ≤ b ∧ b ≤ 1) {b : Int} (b0 : 0 ≤ b) (b1 : b ≤ 1) : Go.bits .or .u8 (byteN bs (bs.length / 8)) (shl .u8 (b % 256) (wrap64 (7 - Int.tmod (bs.length : Int) 8))) = byteN bs (bs.length / 8) + b * 2 ^ (7 - bs.length % 8) := by
 have hr : bs.length % 8 < 8 := Nat.mod_lt _ (by omega)
 obtain ⟨p1, p2, p3⟩ := pow7 (bs.length % 8)
 have e : shl .u8 (b % 256) (wrap64 (7 - Int.tmod (bs.length : Int) 8)) = b * 2 ^ (7 - bs.length % 8) := by
  rw [tmod8, w64 (by omega) (by omega)]
  unfold shl
  rw [show (7 - ((bs.length % 8 : Nat) : Int)).toNat = 7 - bs.length % 8 by omega, Nat.min_eq_left (show 7 - bs.length % 8 ≤ IntKind.u8.bits by show 7 - bs.length % 8 ≤ 8; omega), IntKind.wrap_u8]
  rcases (show b = 0 ∨ b = 1 by omega) with rfl | rfl
  ·simp
  ·rw [show (1 : Int) % 256 = 1 by decide, Int.one_mul, ← p1]
   omega
 rw [e]
 exact or_bit hb b0 b1
theorem or_shr {bs : List Int} (hb : ∀ b ∈ bs, 0 ≤ b ∧ b ≤ 1) : Go.bits .or .u8 (byteN bs (bs.length / 8)) (shr .u8 128 (Int.tmod (bs.length : Int) 8)) = byteN bs (bs.length / 8) + 1 * 2 ^ (7 - bs.length % 8) := by
 have hr : bs.length % 8 < 8 := Nat.mod_lt _ (by omega)
 have e : shr .u8 128 (Int.tmod (bs.length : Int) 8) = 1 * 2 ^ (7 - bs.length % 8) := by
  rw [tmod8]
  unfold shr
  rw [Int.toNat_natCast, Nat.min_eq_left (show bs.length % 8 ≤ IntKind.u8.bits by show bs.length % 8 ≤ 8; omega)]
  have hc : bs.length % 8 = 0 ∨ bs.length % 8 = 1 ∨ bs.length % 8 = 2 ∨ bs.length % 8 = 3 ∨ bs.length % 8 = 4 ∨ bs.length % 8 = 5 ∨ bs.length % 8 = 6 ∨ bs.length % 8 = 7 := by omega
  rcases hc with h | h | h | h | h | h | h | h <;> rw [h] <;> decide
 rw [e]
 exact or_bit hb (by omega) (by omega)
def grown (bs : List Int) : List Int := if bs.length % 8 = 0 then pb bs ++ [0] else pb bs
theorem grown_len (bs : List Int) : (grown bs).length = bs.length / 8 + 1 := by
 unfold grown
 split
 ·rw [List.length_append, pb_len, List.length_singleton]; omega
 ·rw [pb_len]; omega
theorem grown_get (bs : List Int) : (grown bs)[bs.length / 8]? = some (byteN bs (bs.length / 8)) := by
 unfold grown
 split
 ·rename_i h
  rw [List.getElem?_append_right (by rw [pb_len]; omega), pb_len, show bs.length / 8 - (bs.length + 7) / 8 = 0 by omega, (byteN_dvd bs).2 h]
  rfl
 ·rw [pb_get (by omega)]
theorem grown_rd (base bs : List Int) (hl : base.length ≤ 1000000000) (hb : bs.length ≤ 1000000000) : rd (base ++ grown bs) (wrap64 (((base ++ grown bs).length : Int) - 1)) = byteN bs (bs.length / 8) := by
 have h := grown_len bs
 rw [List.length_append, w64 (by omega) (by omega), show ((base.length + (grown bs).length : Nat) : Int) - 1 = ((base.length + bs.length / 8 : Nat) : Int) by omega, rdD]
 rw [List.getD, List.getElem?_append_right (by omega), Nat.add_sub_cancel_left, grown_get]
 rfl
theorem grown_set (base bs : List Int) (hl : base.length ≤ 1000000000) (hb : bs.length ≤ 1000000000) (b : Int) : (base ++ grown bs).set (wrap64 (((base ++ grown bs).length : Int) - 1)).toNat (byteN bs (bs.length / 8) + b * 2 ^ (7 - bs.length % 8)) = base ++ pb (bs ++ [b]) := by
 have h := grown_len bs
 rw [List.length_append, w64 (by omega) (by omega), show (((base.length + (grown bs).length : Nat) : Int) - 1).toNat = base.length + bs.length / 8 by omega]
 rw [List.set_append_right _ _ (by omega), Nat.add_sub_cancel_left, pb_snoc]
 rfl
theorem allbits_bit {bs : List Int} {b : Int} (hb : ∀ b ∈ bs, 0 ≤ b ∧ b ≤ 1) (b0 : 0 ≤ b) (b1 : b ≤ 1) : ∀ c ∈ bs ++ [b], 0 ≤ c ∧ c ≤ 1 := by
 intro c hc
 rcases List.mem_append.1 hc with h | h
 ·exact hb c h
 ·rw [List.mem_singleton.1 h]; exact ⟨b0, b1⟩
theorem packed_l1 (base : List Int) (hl : base.length ≤ 1000000000) (w : Int) (v : Int) (v0 : 0 ≤ v) (v1 : v < 9223372036854775808) (x11 : List Int) (x12 x13 : Int) (r : List Int) (c : Nat) :
 ∀ bs : List Int, (∀ b ∈ bs, 0 ≤ b ∧ b ≤ 1) → bs.length + c ≤ 1000000000 → c ≤ 64 →
 Ev (fun k => e_packed.l0 k (base ++ pb (bs ++ bitsOf v c)) w ((bs.length + c : Nat) : Int) x11 x12 (wrap64 (x13 + 1))) r →
 Ev (fun k => e_packed.l1 k (base ++ pb bs) w (bs.length : Int) v ((c : Int) - 1) x11 x12 x13) r := by
 induction c with
 | zero =>
  intro bs hb hbl hc h
  refine Ev.step (fun k => by rw [e_packed.l1]) (ev_neg (by omega) ?_)
  simpa [bitsOf] using h
 | succ c ih =>
  intro bs hb hbl hc h
  have e1 : ((c + 1 : Nat) : Int) - 1 = (c : Int) := by omega
  have hbit := bit_of v0 v1 (show c ≤ 64 by omega)
  have b0 : 0 ≤ v / 2 ^ c % 2 := by omega
  have b1 : v / 2 ^ c % 2 ≤ 1 := by omega
  have hgl := grown_len bs
  have hpl := pb_len bs
  have hr : bs.length % 8 < 8 := Nat.mod_lt _ (by omega)
  have next : Ev (fun k => e_packed.l1 k ((base ++ grown bs).set (wrap64 (((base ++ grown bs).length : Int) - 1)).toNat (Go.bits .or .u8 (rd (base ++ grown bs) (wrap64 (((base ++ grown bs).length : Int) - 1))) (shl .u8 ((Go.bits .and .i64 (shr .i64 v (c : Int)) 1) % 256) (wrap64 (7 - (Int.tmod (bs.length : Int) 8)))))) w (wrap64 ((bs.length : Int) + 1)) v (wrap64 ((c : Int) - 1)) x11 x12 x13) r := by
   rw [hbit, grown_rd base bs hl (by omega), or_shl hb b0 b1, grown_set base bs hl (by omega)]
   rw [w64 (n := (bs.length : Int) + 1) (by omega) (by omega), w64 (n := (c : Int) - 1) (by omega) (by omega)]
   have := ih (bs ++ [v / 2 ^ c % 2]) (allbits_bit hb b0 b1) (by simp; omega) (by omega) ?_
   ·rw [List.length_append, List.length_singleton] at this
    exact this
   ·rw [List.append_assoc, List.length_append, List.length_singleton]
    rw [show bs.length + 1 + c = bs.length + (c + 1) by omega]
    exact h
  have hlen : (base ++ grown bs).length = base.length + (bs.length / 8 + 1) := by rw [List.length_append, hgl]
  refine Ev.step (fun k => by rw [e_packed.l1]) ?_
  rw [e1]
  refine ev_pos (by omega) ?_
  by_cases h8 : bs.length % 8 = 0
  ·have hg : base ++ pb bs ++ [0] = base ++ grown bs := by unfold grown; rw [if_pos h8, List.append_assoc]
   refine ev_pos (by rw [tmod8]; omega) (ev_pos (by rw [List.length_append, hpl]; omega) ?_)
   rw [hg]
   refine Ev.bind (ev_some _) (ev_pos ?_ (ev_pos ?_ (ev_pos (by omega) (ev_pos ?_ next))))
   ·rw [hlen, w64 (by omega) (by omega)]; omega
   ·rw [hlen, w64 (by omega) (by omega)]; omega
   ·rw [tmod8, w64 (by omega) (by omega)]; omega
  ·have hg : base ++ pb bs = base ++ grown bs := by unfold grown; rw [if_neg h8]
   refine ev_neg (by rw [tmod8]; omega) ?_
   rw [hg]
   refine ev_pos ?_ (ev_pos ?_ (ev_pos (by omega) (ev_pos ?_ next)))
   ·rw [hlen, w64 (by omega) (by omega)]; omega
   ·rw [hlen, w64 (by omega) (by omega)]; omega
   ·rw [tmod8, w64 (by omega) (by omega)]; omega
/-- All bits of numbers, each of so many. -/
def allbits (l : List Int) (w : Nat) : List Int := l.flatMap fun v => bitsOf v w
theorem allbits_len (l : List Int) (w : Nat) : (allbits l w).length = l.length * w := by
 induction l with
 | nil => simp [allbits]
 | cons v l ih =>
  unfold allbits at *
  rw [List.flatMap_cons, List.length_append, ih, bitsOf_len, List.length_cons, Nat.add_mul]
  omega
theorem allbits_bits (l : List Int) (w : Nat) : ∀ b ∈ allbits l w, 0 ≤ b ∧ b ≤ 1 := by
 intro b hb
 obtain ⟨v, _, h⟩ := List.mem_flatMap.1 hb
 exact bitsOf_bit v w b h
theorem allbits_take {l : List Int} {w i : Nat} (h : i < l.length) : allbits (l.take (i + 1)) w = allbits (l.take i) w ++ bitsOf (l.getD i 0) w := by
 unfold allbits
 rw [List.take_add_one, List.flatMap_append]
 simp [List.getD, h]
theorem packed_ev {base l : List Int} {w : Nat} (hl : base.length ≤ 1000000000) (hn : l.length ≤ 2000) (hw : w ≤ 64) (hv : ∀ v ∈ l, 0 ≤ v ∧ v < 9223372036854775808) :
 Ev (fun k => e_packed.f k base l (w : Int)) (base ++ pb (allbits l w)) := by
 have key : ∀ d i, i ≤ l.length → l.length - i ≤ d → Ev (fun k => e_packed.l0 k (base ++ pb (allbits (l.take i) w)) (w : Int) ((i * w : Nat) : Int) l (l.length : Int) (i : Int)) (base ++ pb (allbits l w)) := by
  intro d
  induction d with
  | zero =>
   intro i hi hd
   refine Ev.step (fun k => by rw [e_packed.l0]) (ev_neg (by omega) ?_)
   rw [List.take_of_length_le (by omega)]
   exact ev_some _
  | succ d ih =>
   intro i hi hd
   refine Ev.step (fun k => by rw [e_packed.l0]) ?_
   by_cases hlt : i < l.length
   ·refine ev_pos (by omega) (ev_pos (by omega) (ev_pos (by omega) ?_))
    have hm : l.getD i 0 ∈ l := by
     simp only [List.getD, List.getElem?_eq_getElem hlt, Option.getD_some]
     exact List.getElem_mem hlt
    have hvi := hv _ hm
    have hmul : i * w ≤ 2000 * 64 := Nat.mul_le_mul (by omega) hw
    have hal := allbits_len (l.take i) w
    rw [List.length_take, Nat.min_eq_left hi] at hal
    rw [rdD, w64 (by omega) (by omega)]
    have := packed_l1 base hl (w : Int) (l.getD i 0) hvi.1 hvi.2 l (l.length : Int) (i : Int) (base ++ pb (allbits l w)) w (allbits (l.take i) w) (allbits_bits _ _) (by omega) hw ?_
    ·rw [hal] at this
     exact this
    ·rw [hal, ← allbits_take hlt, w64 (by omega) (by omega), show i * w + w = (i + 1) * w by rw [Nat.add_mul, Nat.one_mul]]
     exact ih (i + 1) (by omega) (by omega)
   ·refine ev_neg (by omega) ?_
    rw [List.take_of_length_le (by omega)]
    exact ev_some _
 have := key l.length 0 (by omega) (by omega)
 simpa [allbits, pb, e_packed.f] using this
theorem compactUpTo_sorted {α : Type} [Inhabited α] [DecidableEq α] (le : α → α → Prop) (tr : ∀ a b c, le a b → le b c → le a c) (an : ∀ a b, le a b → le b a → a = b) (rf : ∀ a, le a a) (d : Array α) (hs : ∀ j, j + 1 < d.size → le d[j]! d[j + 1]!) :
 ∀ m, m ≤ d.size → (Lib.compactUpTo d m).Pairwise (fun a b => le a b ∧ a ≠ b) ∧ (0 < m → ∀ x ∈ Lib.compactUpTo d m, le x d[m - 1]!) ∧ (∀ x, x ∈ Lib.compactUpTo d m ↔ ∃ j, j < m ∧ d[j]! = x) := by
 intro m
 induction m with
 | zero => intro _; simp [Lib.compactUpTo]
 | succ m ih =>
  intro hm
  obtain ⟨i1, i2, i3⟩ := ih (by omega)
  rw [Lib.compactUpTo_succ]
  by_cases h0 : m = 0
  ·subst h0
   have e : Lib.keeps d 0 = true := Lib.keeps_lt_one d 0 (by omega)
   rw [if_pos e]
   have e0 : Lib.compactUpTo d 0 = [] := rfl
   rw [e0, List.nil_append]
   refine ⟨List.pairwise_singleton .., fun _ x hx => by rw [List.mem_singleton.1 hx]; exact rf _, fun x => ?_⟩
   rw [List.mem_singleton]
   exact ⟨fun h => ⟨0, by omega, h.symm⟩, fun ⟨j, hj, h⟩ => by rw [show j = 0 by omega] at h; exact h.symm⟩
  ·have hp := hs (m - 1) (by omega)
   rw [show m - 1 + 1 = m by omega] at hp
   by_cases he : d[m]! = d[m - 1]!
   ·rw [Lib.keeps_neg (by omega) he, if_neg (by simp), List.append_nil]
    refine ⟨i1, fun _ x hx => ?_, fun x => ?_⟩
    ·rw [Nat.add_sub_cancel, he]
     exact i2 (by omega) x hx
    ·rw [i3]
     constructor
     ·rintro ⟨j, hj, h⟩; exact ⟨j, by omega, h⟩
     ·rintro ⟨j, hj, h⟩
      by_cases hjm : j = m
      ·subst hjm; exact ⟨j - 1, by omega, he ▸ h⟩
      ·exact ⟨j, by omega, h⟩
   ·rw [Lib.keeps_pos he, if_pos rfl]
    refine ⟨?_, fun _ x hx => ?_, fun x => ?_⟩
    ·rw [List.pairwise_append]
     refine ⟨i1, by simp, fun a ha b hb => ?_⟩
     rw [List.mem_singleton.1 hb]
     have := i2 (by omega) a ha
     exact ⟨tr _ _ _ this hp, fun h => he (an _ _ (h ▸ this) hp)⟩
    ·rw [Nat.add_sub_cancel]
     rcases List.mem_append.1 hx with h | h
     ·exact tr _ _ _ (i2 (by omega) x h) hp
     ·rw [List.mem_singleton.1 h]; exact rf _
    ·rw [List.mem_append, i3, List.mem_singleton]
     constructor
     ·rintro (⟨j, hj, h⟩ | h)
      ·exact ⟨j, by omega, h⟩
      ·exact ⟨m, by omega, h.symm⟩
     ·rintro ⟨j, hj, h⟩
      by_cases hjm : j = m
      ·subst hjm; exact Or.inr h.symm
      ·exact Or.inl ⟨j, by omega, h⟩
theorem compact_sorted {α : Type} [Inhabited α] [DecidableEq α] (le : α → α → Prop) (tr : ∀ a b c, le a b → le b c → le a c) (an : ∀ a b, le a b → le b a → a = b) (rf : ∀ a, le a a) (zs : List α) (hs : zs.Pairwise le) :
 (Lib.compact zs).Pairwise (fun a b => le a b ∧ a ≠ b) ∧ ∀ x, x ∈ Lib.compact zs ↔ x ∈ zs := by
 have hs' : ∀ j, j + 1 < zs.toArray.size → le zs.toArray[j]! zs.toArray[j + 1]! := by
  intro j hj
  have hj' : j + 1 < zs.length := hj
  rw [getElem!_pos zs.toArray j (by omega), getElem!_pos zs.toArray (j + 1) hj]
  exact List.pairwise_iff_getElem.1 hs j (j + 1) (by omega) hj' (by omega)
 obtain ⟨h1, _, h3⟩ := compactUpTo_sorted le tr an rf zs.toArray hs' zs.length (Nat.le_refl _)
 refine ⟨h1, fun x => ?_⟩
 show x ∈ Lib.compactUpTo zs.toArray zs.length ↔ _
 rw [h3]
 constructor
 ·rintro ⟨j, hj, h⟩
  rw [getElem!_pos zs.toArray j hj] at h
  rw [← h]
  exact List.getElem_mem hj
 ·intro h
  obtain ⟨j, hj, e⟩ := List.getElem_of_mem h
  exact ⟨j, hj, by rw [getElem!_pos zs.toArray j hj]; exact e⟩
/-- The values, sorted, each once. -/
def dst (l : List Int) : List Int := Lib.compact (l.mergeSort fun x y => decide (x ≤ y))
theorem dst_sorted (l : List Int) : (dst l).Pairwise (· < ·) ∧ ∀ x, x ∈ dst l ↔ x ∈ l := by
 have h := List.pairwise_mergeSort (le := fun x y : Int => decide (x ≤ y)) (by intro a b c h1 h2; simp at *; omega) (by intro a b; simp; omega) l
 obtain ⟨h1, h2⟩ := compact_sorted (fun a b : Int => a ≤ b) (fun a b c => Int.le_trans) (fun a b => Int.le_antisymm) Int.le_refl _ (h.imp (fun h => by simpa using h))
 refine ⟨h1.imp (fun ⟨a, b⟩ => by omega), fun x => ?_⟩
 unfold dst
 rw [h2, List.mem_mergeSort]
theorem dst_len (l : List Int) : (dst l).length ≤ l.length := by
 have h := compact_length_le (l.mergeSort fun x y => decide (x ≤ y))
 rw [List.length_mergeSort] at h
 exact h
theorem dst_ne {l : List Int} (h : l ≠ []) : 0 < (dst l).length := by
 cases l with
 | nil => exact absurd rfl h
 | cons a l => exact List.length_pos_of_mem (((dst_sorted (a :: l)).2 a).2 (List.mem_cons_self ..))
/-- A value's place. -/
def pl (d : List Int) (v : Int) : Nat := d.idxOf v
theorem pl_lt {d : List Int} {v : Int} (h : v ∈ d) : pl d v < d.length := List.idxOf_lt_length_of_mem h
theorem pl_get {d : List Int} {v : Int} (h : v ∈ d) : d.getD (pl d v) 0 = v := by
 have := List.getElem_idxOf (pl_lt h)
 simp [List.getD, pl_lt h]
 exact this
theorem pl_iff {d : List Int} (hs : d.Pairwise (· < ·)) {v : Int} (h : v ∈ d) {j : Nat} (hj : j < d.length) : d.getD j 0 < v ↔ j < pl d v := by
 have hg := pl_get h
 have hl := pl_lt h
 have hd : ∀ i, i < d.length → d.getD i 0 = d[i]! := fun i hi => by simp [List.getD, hi]
 have mono : ∀ i j, i < j → j < d.length → d.getD i 0 < d.getD j 0 := fun i j hij hj => by
  have := List.pairwise_iff_getElem.1 hs i j (by omega) hj hij
  simpa [List.getD, hj, show i < d.length by omega] using this
 constructor
 ·intro hlt
  rcases Nat.lt_trichotomy j (pl d v) with h1 | h1 | h1
  ·exact h1
  ·subst h1; omega
  ·have := mono _ _ h1 hj; omega
 ·intro h1
  have := mono _ _ h1 hl
  omega
theorem less_ev (a b : Int) : cmp_Less_int.f a b = some (decide (a < b)) := by
 simp [cmp_Less_int.f, cmp_isNaN_int.f]
theorem search_ev {d : List Int} (hs : d.Pairwise (· < ·)) (hd : d.length ≤ 100000) {v : Int} (h : v ∈ d) : Ev (fun k => s_BinarySearch.f k d v) ((pl d v : Int), true) := by
 have hl := pl_lt h
 have key : ∀ n (i j : Nat), i ≤ pl d v → pl d v ≤ j → j ≤ d.length → j - i ≤ n → Ev (fun k => s_BinarySearch.l0 k d v (d.length : Int) (i : Int) (j : Int)) ((pl d v : Int), true) := by
  intro n
  induction n with
  | zero =>
   intro i j hi hj hjl hn
   refine Ev.step (fun k => by rw [s_BinarySearch.l0]) (ev_neg (by omega) (ev_pos (by omega) (ev_pos (by omega) (ev_pos (by omega) (ev_pos ?_ ?_)))))
   ·rw [rdD, show i = pl d v by omega, pl_get h]
   ·rw [show i = pl d v by omega]
    exact ev_some _
  | succ n ih =>
   intro i j hi hj hjl hn
   refine Ev.step (fun k => by rw [s_BinarySearch.l0]) ?_
   by_cases hij : i < j
   ·have em : wrap64 (IntKind.u64.wrap (wrap64 ((i : Int) + (j : Int))) / 2) = (((i + j) / 2 : Nat) : Int) := by
     rw [w64 (n := (i : Int) + (j : Int)) (by omega) (by omega), u64w, w64 (by omega) (by omega)]
     omega
    rw [em, rdD, less_ev]
    refine ev_pos (by omega) (ev_pos (by omega) (ev_pos (by omega) (Ev.bind (ev_some _) ?_)))
    by_cases hlt : d.getD ((i + j) / 2) 0 < v
    ·have := (pl_iff hs h (by omega)).1 hlt
     refine ev_pos (by simpa using hlt) ?_
     rw [w64 (by omega) (by omega)]
     exact ih ((i + j) / 2 + 1) j (by omega) hj hjl (by omega)
    ·have hnl : ¬ (i + j) / 2 < pl d v := fun h' => hlt ((pl_iff hs h (by omega)).2 h')
     refine ev_neg (by simpa using hlt) ?_
     exact ih i ((i + j) / 2) hi (by omega) (by omega) (by omega)
   ·refine ev_neg (by omega) (ev_pos (by omega) (ev_pos (by omega) (ev_pos (by omega) (ev_pos ?_ ?_))))
    ·rw [rdD, show i = pl d v by omega, pl_get h]
    ·rw [show i = pl d v by omega]
     exact ev_some _
 exact key _ 0 d.length (by omega) (by omega) (Nat.le_refl _) (Nat.le_refl _)
/-- All values' places. -/
def pls (l : List Int) : List Int := l.map fun v => (pl (dst l) v : Int)
theorem pls_len (l : List Int) : (pls l).length = l.length := by simp [pls]
theorem pls_range {l : List Int} : ∀ x ∈ pls l, 0 ≤ x ∧ x < ((dst l).length : Int) := by
 intro x hx
 obtain ⟨v, hv, rfl⟩ := List.mem_map.1 hx
 have := pl_lt (((dst_sorted l).2 v).2 hv)
 omega
theorem distinct_ev {l : List Int} (hl : l.length ≤ 2000) : Ev (fun k => e_distinct.f k l) (dst l, pls l) := by
 have hd := dst_len l
 have hs := dst_sorted l
 have key : ∀ n (i : Nat), i ≤ l.length → l.length - i ≤ n → Ev (fun k => e_distinct.l0 k (dst l) ((l.take i).map fun v => (pl (dst l) v : Int)) l (l.length : Int) (i : Int)) (dst l, pls l) := by
  intro n
  induction n with
  | zero =>
   intro i hi hn
   refine Ev.step (fun k => by rw [e_distinct.l0]) (ev_neg (by omega) ?_)
   rw [List.take_of_length_le (by omega)]
   exact ev_some _
  | succ n ih =>
   intro i hi hn
   refine Ev.step (fun k => by rw [e_distinct.l0]) ?_
   by_cases hlt : i < l.length
   ·have hm : l.getD i 0 ∈ l := by
     simp only [List.getD, List.getElem?_eq_getElem hlt, Option.getD_some]
     exact List.getElem_mem hlt
    refine ev_pos (by omega) (ev_pos (by omega) (ev_pos (by omega) ?_))
    rw [rdD]
    refine Ev.bind (search_ev hs.1 (by omega) ((hs.2 _).2 hm)) (ev_pos (by simp; omega) ?_)
    rw [w64 (by omega) (by omega)]
    have := ih (i + 1) (by omega) (by omega)
    rw [List.take_add_one, List.map_append] at this
    simpa [List.getD, hlt] using this
   ·refine ev_neg (by omega) ?_
    rw [List.take_of_length_le (by omega)]
    exact ev_some _
 unfold e_distinct.f s_Clone.f s_Sort.f s_Compact.f
 rw [if_pos (show l.length * 8 ≤ 140737488355328 by omega)]
 refine Ev.bind (ev_some _) ?_
 rw [if_pos (show l.length < 4611686018427387904 by omega)]
 refine Ev.bind (ev_some _) (Ev.bind (ev_some _) ?_)
 exact key _ 0 (by omega) (Nat.le_refl _)
theorem width_ev {x : Int} (h0 : 0 ≤ x) (h1 : x < 9223372036854775808) : e_widthOf.f x = some ((Lib.bitLen x.toNat : Nat) : Int) := by
 unfold e_widthOf.f bits_Len.f
 rw [u64w, Int.emod_eq_of_lt h0 (by omega), if_pos ⟨h0, by omega⟩]
 rfl
/-- Values that may be encoded. -/
def Okv (l : List Int) : Prop := l.length ≤ 2000 ∧ ∀ v ∈ l, -1000000000000000 ≤ v ∧ v ≤ 1000000000000000
theorem mem_getD {l : List Int} {i : Nat} (h : i < l.length) : l.getD i 0 ∈ l := by
 simp only [List.getD, List.getElem?_eq_getElem h, Option.getD_some]
 exact List.getElem_mem h
theorem wadd (i j : Nat) (h : i + j ≤ 9223372036854775807) : wrap64 ((i : Int) + (j : Int)) = ((i + j : Nat) : Int) := by
 rw [w64 (by omega) (by omega)]; omega
def nums (l : List Int) : List Int := l.flatMap num
theorem nums_len {l : List Int} (h : ∀ v ∈ l, -4000000000000000 ≤ v ∧ v ≤ 4000000000000000) : (nums l).length ≤ 10 * l.length := by
 induction l with
 | nil => simp [nums]
 | cons v l ih =>
  have h1 := ih (fun x hx => h x (List.mem_cons_of_mem _ hx))
  have h2 := h v (List.mem_cons_self ..)
  have := num_len h2.1 h2.2
  unfold nums at *
  rw [List.flatMap_cons, List.length_append, List.length_cons]
  omega
theorem e_l0 {l : List Int} (hn : l.length ≤ 2000) (hv : ∀ v ∈ l, -4000000000000000 ≤ v ∧ v ≤ 4000000000000000) (d : Nat) : ∀ (i : Nat) (out : List Int), i ≤ l.length → l.length - i ≤ d → out.length + 10 * (l.length - i) ≤ 1000000 →
 Ev (fun k => e_encode.l0 k out l (l.length : Int) (i : Int)) (out ++ nums (l.drop i)) := by
 induction d with
 | zero =>
  intro i out hi hd ho
  refine Ev.step (fun k => by rw [e_encode.l0]) (ev_neg (by omega) ?_)
  rw [List.drop_eq_nil_of_le (by omega)]
  simpa [nums] using ev_some out
 | succ d ih =>
  intro i out hi hd ho
  refine Ev.step (fun k => by rw [e_encode.l0]) ?_
  by_cases h : i < l.length
  ·have hb := hv _ (mem_getD h)
   have hl := num_len hb.1 hb.2
   refine ev_pos (by omega) (ev_pos (by omega) (ev_pos (by omega) ?_))
   rw [rdD]
   refine Ev.bind (number_ev hb.1 hb.2 (by omega)) ?_
   rw [w64 (by omega) (by omega)]
   refine ev_eq (ih (i + 1) (out ++ num (l.getD i 0)) (by omega) (by omega) (by rw [List.length_append]; omega)) ?_
   rw [getD_drop_head (d := 0) h, nums, nums, List.flatMap_cons, List.append_assoc]
  ·refine ev_neg (by omega) ?_
   rw [List.drop_eq_nil_of_le (by omega)]
   simpa [nums] using ev_some out
/-- How many of a list are alike at its head. -/
def hdI (b : Int) : List Int → Nat
 | [] => 0
 | c :: l => if c = b then hdI b l + 1 else 0
theorem hdI_le (b : Int) (l : List Int) : hdI b l ≤ l.length := by
 induction l with
 | nil => simp [hdI]
 | cons c l ih =>
  unfold hdI
  split
  ·simp; exact ih
  ·simp
theorem hdI_get {b : Int} {l : List Int} {j : Nat} (h : j < hdI b l) : l[j]? = some b := by
 induction l generalizing j with
 | nil => simp [hdI] at h
 | cons c l ih =>
  unfold hdI at h
  split at h
  ·rename_i hc
   cases j with
   | zero => simp [hc]
   | succ j => simpa using ih (by omega)
  ·omega
theorem hdI_end {b : Int} {l : List Int} (h : hdI b l < l.length) : ∃ c, l[hdI b l]? = some c ∧ c ≠ b := by
 induction l with
 | nil => simp at h
 | cons c l ih =>
  unfold hdI at h ⊢
  split at h
  ·rename_i hc
   rw [if_pos hc]
   simpa using ih (by simpa using h)
  ·rename_i hc
   rw [if_neg hc]
   exact ⟨c, by simp, hc⟩
/-- Runs of values, with their counts. -/
def rle : List Int → List Int
 | [] => []
 | b :: l => num b ++ cnt (hdI b l + 1) ++ rle (l.drop (hdI b l))
termination_by l => l.length
decreasing_by simp; omega
theorem rle_cons (b : Int) (l : List Int) : rle (b :: l) = num b ++ cnt (hdI b l + 1) ++ rle (l.drop (hdI b l)) := by rw [rle]
theorem rle_nil : rle [] = [] := by rw [rle]
theorem rle_len (n : Nat) : ∀ l : List Int, l.length ≤ n → l.length ≤ 2000 → (∀ v ∈ l, -4000000000000000 ≤ v ∧ v ≤ 4000000000000000) → (rle l).length ≤ 20 * l.length := by
 induction n with
 | zero =>
  intro l hl _ _
  have : l = [] := List.eq_nil_of_length_eq_zero (by omega)
  subst this
  simp [rle_nil]
 | succ n ih =>
  intro l hl h2 hv
  cases l with
  | nil => simp [rle_nil]
  | cons b l =>
   have h2' : l.length + 1 ≤ 2000 := h2
   have h1 := hdI_le b l
   have := ih (l.drop (hdI b l)) (by simp at hl ⊢; omega) (by simp; omega) (fun v h => hv v (List.mem_cons_of_mem _ (List.mem_of_mem_drop h)))
   have hc := cnt_len10 (n := hdI b l + 1) (by omega)
   have hb := hv b (List.mem_cons_self ..)
   have hnl := num_len hb.1 hb.2
   rw [rle_cons, List.length_append, List.length_append, List.length_cons]
   rw [List.length_drop] at this
   omega
theorem e_l2 (x : List Int) (hx : x.length ≤ 2000) (hv : ∀ v ∈ x, -4000000000000000 ≤ v ∧ v ≤ 4000000000000000) (out : List Int) (i : Nat) (b : Int) (t : List Int) (hd_ : x.drop i = b :: t) (ho : out.length ≤ 1000000) (r : List Int) (e : Nat) :
 ∀ j, hdI b t = j + e → Ev (fun k => e_encode.l1 k x (out ++ num b ++ cnt (hdI b t + 1)) ((i + (hdI b t + 1) : Nat) : Int)) r →
  Ev (fun k => e_encode.l2 k x out (i : Int) ((j + 1 : Nat) : Int)) r := by
 have hlen : x.length = i + (t.length + 1) := by
  have := congrArg List.length hd_
  simp at this
  omega
 have hget : ∀ q, x[i + q]? = (b :: t)[q]? := by
  intro q
  rw [← hd_, List.getElem?_drop]
 have hle := hdI_le b t
 have hi0 : x.getD i 0 = b := by
  have := hget 0
  simp at this
  simp [List.getD, this]
 have hbm := hv b (hi0 ▸ mem_getD (show i < x.length by omega))
 have hnl := num_len hbm.1 hbm.2
 have fin : Unit → Ev (fun k => e_encode.l1 k x (out ++ num b ++ cnt (hdI b t + 1)) ((i + (hdI b t + 1) : Nat) : Int)) r →
  Ev (fun k => (e_number.f k out (rd x (i : Int))).bind fun t158 => (e_count.f k t158 (IntKind.u64.wrap ((hdI b t + 1 : Nat) : Int))).bind fun t161 => e_encode.l1 k x t161 ((i + (hdI b t + 1) : Nat) : Int)) r := by
  intro _ h
  rw [rdD, hi0, u64w, Int.emod_eq_of_lt (by omega) (by omega)]
  have hc : Ev (fun k => e_count.f k (out ++ num b) ((hdI b t + 1 : Nat) : Int)) (out ++ num b ++ cnt (hdI b t + 1)) := count_ev (by omega) (by rw [List.length_append]; omega)
  have hN : Ev (fun k => e_number.f k out b) (out ++ num b) := number_ev hbm.1 hbm.2 (by omega)
  exact Ev.bind hN (Ev.bind hc h)
 induction e with
 | zero =>
  intro j hj h
  have hj' : j = hdI b t := by omega
  subst hj'
  have e1 : wrap64 ((i : Int) + ((hdI b t + 1 : Nat) : Int)) = ((i + (hdI b t + 1) : Nat) : Int) := by rw [w64 (by omega) (by omega)]; omega
  refine Ev.step (fun k => by rw [e_encode.l2]) ?_
  rw [e1]
  by_cases hin : i + (hdI b t + 1) < x.length
  ·obtain ⟨c, hc, hne⟩ := hdI_end (b := b) (l := t) (by omega)
   have hnx : x.getD (i + (hdI b t + 1)) 0 = c := by
    have h1 := hget (hdI b t + 1)
    simp only [List.getElem?_cons_succ, hc] at h1
    simp [List.getD, h1]
   refine ev_pos (by omega) (ev_pos (by omega) (ev_pos (by omega) (ev_pos (by omega) (ev_neg ?_ (fin () h)))))
   rw [rdD, rdD, hnx, hi0]
   exact hne
  ·exact ev_neg (by omega) (ev_pos (by omega) (ev_pos (by omega) (fin () h)))
 | succ e ih =>
  intro j hj h
  refine Ev.step (fun k => by rw [e_encode.l2]) ?_
  clear fin hnl hbm hv ho
  have e1 := wadd i (j + 1) (by omega)
  have e2 := wadd (j + 1) 1 (by omega)
  rw [show ((1 : Nat) : Int) = 1 from rfl] at e2
  rw [e1, e2]
  have hnx : x.getD (i + (j + 1)) 0 = b := by
   have h1 := hget (j + 1)
   have h2 := hdI_get (b := b) (l := t) (j := j) (by omega)
   simp only [List.getElem?_cons_succ, h2] at h1
   simp [List.getD, h1]
  refine ev_pos (by omega) (ev_pos (by omega) (ev_pos (by omega) (ev_pos (by omega) (ev_pos ?_ ?_))))
  ·rw [rdD, rdD, hnx, hi0]
  ·exact ih (j + 1) (by omega) h
theorem e_l1 (x : List Int) (hx : x.length ≤ 2000) (hv : ∀ v ∈ x, -4000000000000000 ≤ v ∧ v ≤ 4000000000000000) (d : Nat) : ∀ (i : Nat) (out : List Int), i ≤ x.length → x.length - i ≤ d → out.length + 20 * (x.length - i) ≤ 1000000 →
 Ev (fun k => e_encode.l1 k x out (i : Int)) (out ++ rle (x.drop i)) := by
 induction d with
 | zero =>
  intro i out hi hdd ho
  refine Ev.step (fun k => by rw [e_encode.l1]) (ev_neg (by omega) ?_)
  rw [List.drop_eq_nil_of_le (by omega), rle_nil, List.append_nil]
  exact ev_some out
 | succ d ih =>
  intro i out hi hdd ho
  refine Ev.step (fun k => by rw [e_encode.l1]) ?_
  by_cases hlt : i < x.length
  ·obtain ⟨b, t, hbt⟩ : ∃ b t, x.drop i = b :: t := ⟨_, _, getD_drop_head (d := 0) hlt⟩
   have hlen : x.length = i + (t.length + 1) := by
    have := congrArg List.length hbt
    simp at this
    omega
   have hle := hdI_le b t
   have hbm : b ∈ x := List.mem_of_mem_drop (i := i) (by rw [hbt]; exact List.mem_cons_self ..)
   have hnl := num_len (hv b hbm).1 (hv b hbm).2
   have hcl := cnt_len10 (n := hdI b t + 1) (by omega)
   refine ev_pos (by omega) (e_l2 x hx hv out i b t hbt (by omega) _ (hdI b t) 0 (by omega) ?_)
   refine ev_eq (ih (i + (hdI b t + 1)) (out ++ num b ++ cnt (hdI b t + 1)) (by omega) (by omega) (by rw [List.length_append, List.length_append]; omega)) ?_
   rw [hbt, rle_cons, ← List.drop_drop, hbt, List.drop_succ_cons]
   simp only [List.append_assoc]
  ·refine ev_neg (by omega) ?_
   rw [List.drop_eq_nil_of_le (by omega), rle_nil, List.append_nil]
   exact ev_some out
/-- The steps from value to value. -/
def dif : Int → List Int → List Int
 | _, [] => []
 | p, b :: t => cnt (b - p).toNat ++ dif b t
theorem dif_len : ∀ (p : Int) (l : List Int), (p :: l).Pairwise (· < ·) → (∀ v ∈ p :: l, -1000000000000000 ≤ v ∧ v ≤ 1000000000000000) → (dif p l).length ≤ 10 * l.length
 | p, [], _, _ => by simp [dif]
 | p, b :: t, hs, hv => by
  have h1 := dif_len b t hs.tail (fun v h => hv v (List.mem_cons_of_mem _ h))
  have h2 := hv p (List.mem_cons_self ..)
  have h3 := hv b (by simp)
  have := cnt_len10 (n := (b - p).toNat) (by omega)
  rw [dif, List.length_append, List.length_cons]
  omega
/-- What stands behind the count of values. -/
def dict (l : List Int) : List Int := cnt (dst l).length ++ num ((dst l).getD 0 0) ++ dif ((dst l).getD 0 0) ((dst l).drop 1) ++ pb (allbits (pls l) (Lib.bitLen ((dst l).length - 1)))
theorem bitLen64 {x : Nat} (h : x < 18446744073709551616) : Lib.bitLen x ≤ 64 := Lib.bitLen_le x 64 (by omega) (by simpa using h)
theorem pb_len_le {l : List Int} {w : Nat} (hl : l.length ≤ 2000) (hw : w ≤ 64) : (pb (allbits l w)).length ≤ 16000 := by
 rw [pb_len, allbits_len]
 have : l.length * w ≤ 2000 * 64 := Nat.mul_le_mul hl hw
 omega
theorem e_l3 {l : List Int} (hl : l.length ≤ 2000) (hv : ∀ v ∈ l, -1000000000000000 ≤ v ∧ v ≤ 1000000000000000) (d : Nat) : ∀ (i : Nat) (out : List Int), i + 1 ≤ (dst l).length → (dst l).length - (i + 1) ≤ d → out.length + 10 * ((dst l).length - i) ≤ 1000000 →
 Ev (fun k => e_encode.l3 k out (dst l) (pls l) ((i + 1 : Nat) : Int)) (out ++ dif ((dst l).getD i 0) ((dst l).drop (i + 1)) ++ pb (allbits (pls l) (Lib.bitLen ((dst l).length - 1)))) := by
 have hs := dst_sorted l
 have hdl := dst_len l
 have done : ∀ (i : Nat) (out : List Int), i + 1 = (dst l).length → out.length ≤ 1000000 → Ev (fun k => e_encode.l3 k out (dst l) (pls l) ((i + 1 : Nat) : Int)) (out ++ dif ((dst l).getD i 0) ((dst l).drop (i + 1)) ++ pb (allbits (pls l) (Lib.bitLen ((dst l).length - 1)))) := by
  intro i out hi ho
  refine Ev.step (fun k => by rw [e_encode.l3]) (ev_neg (by omega) ?_)
  rw [List.drop_eq_nil_of_le (by omega), dif, List.append_nil, w64 (by omega) (by omega), width_ev (by omega) (by omega)]
  refine Ev.bind (ev_some _) (Ev.bind ?_ (ev_some _))
  rw [show (((dst l).length : Int) - 1).toNat = (dst l).length - 1 by omega]
  exact packed_ev (by omega) (by rw [pls_len]; exact hl) (bitLen64 (by omega)) (fun v h => by have := pls_range v h; omega)
 induction d with
 | zero =>
  intro i out hi hd ho
  exact done i out (by omega) (by omega)
 | succ d ih =>
  intro i out hi hd ho
  by_cases h : i + 1 < (dst l).length
  ·have hb1 := hv _ ((hs.2 _).1 (mem_getD h))
   have hb0 := hv _ ((hs.2 _).1 (mem_getD (show i < (dst l).length by omega)))
   have hlt : (dst l).getD i 0 < (dst l).getD (i + 1) 0 := by
    have := List.pairwise_iff_getElem.1 hs.1 i (i + 1) (by omega) h (by omega)
    simpa [List.getD, h, show i < (dst l).length by omega] using this
   have hcl := cnt_len10 (n := ((dst l).getD (i + 1) 0 - (dst l).getD i 0).toNat) (by omega)
   have ei : wrap64 (((i + 1 : Nat) : Int) - 1) = (i : Int) := by rw [w64 (by omega) (by omega)]; omega
   have ec : IntKind.u64.wrap (wrap64 ((dst l).getD (i + 1) 0 - (dst l).getD i 0)) = (((dst l).getD (i + 1) 0 - (dst l).getD i 0).toNat : Int) := by
    rw [w64 (by omega) (by omega), u64w]; omega
   refine Ev.step (fun k => by rw [e_encode.l3]) ?_
   rw [ei, rdD, rdD, ec, w64 (by omega) (by omega)]
   refine ev_pos (by omega) (ev_pos (by omega) (ev_pos (by omega) (ev_pos (by omega) ?_)))
   refine Ev.bind (count_ev (by omega) (by omega)) ?_
   refine ev_eq (ih (i + 1) (out ++ cnt ((dst l).getD (i + 1) 0 - (dst l).getD i 0).toNat) (by omega) (by omega) (by rw [List.length_append]; omega)) ?_
   rw [getD_drop_head (d := 0) h, dif]
   simp only [List.append_assoc]
  ·exact done i out (by omega) (by omega)
theorem minOf_le (l : List Int) (h : l ≠ []) : Lib.minOf l ∈ l ∧ ∀ v ∈ l, Lib.minOf l ≤ v := by
 have key : ∀ (l : List Int) (a : Int), (l.foldl min a = a ∨ l.foldl min a ∈ l) ∧ l.foldl min a ≤ a ∧ ∀ v ∈ l, l.foldl min a ≤ v := by
  intro l
  induction l with
  | nil => intro a; simp
  | cons b l ih =>
   intro a
   obtain ⟨h1, h2, h3⟩ := ih (min a b)
   rw [List.foldl_cons]
   refine ⟨?_, by omega, fun v hv => ?_⟩
   ·rcases h1 with h1 | h1
    ·rw [h1]
     rcases Int.le_total a b with h | h
     ·rw [Int.min_eq_left h]; exact Or.inl rfl
     ·rw [Int.min_eq_right h]; exact Or.inr (List.mem_cons_self ..)
    ·exact Or.inr (List.mem_cons_of_mem _ h1)
   ·rcases List.mem_cons.1 hv with rfl | hv
    ·omega
    ·exact h3 v hv
 cases l with
 | nil => exact absurd rfl h
 | cons a l =>
  obtain ⟨h1, h2, h3⟩ := key (a :: l) a
  refine ⟨?_, fun v hv => h3 v hv⟩
  unfold Lib.minOf
  rcases h1 with h1 | h1
  ·simp only [List.headD_cons]; rw [h1]; exact List.mem_cons_self ..
  ·exact h1
theorem maxOf_ge (l : List Int) (h : l ≠ []) : Lib.maxOf l ∈ l ∧ ∀ v ∈ l, v ≤ Lib.maxOf l := by
 have key : ∀ (l : List Int) (a : Int), (l.foldl max a = a ∨ l.foldl max a ∈ l) ∧ a ≤ l.foldl max a ∧ ∀ v ∈ l, v ≤ l.foldl max a := by
  intro l
  induction l with
  | nil => intro a; simp
  | cons b l ih =>
   intro a
   obtain ⟨h1, h2, h3⟩ := ih (max a b)
   rw [List.foldl_cons]
   refine ⟨?_, by omega, fun v hv => ?_⟩
   ·rcases h1 with h1 | h1
    ·rw [h1]
     rcases Int.le_total a b with h | h
     ·rw [Int.max_eq_right h]; exact Or.inr (List.mem_cons_self ..)
     ·rw [Int.max_eq_left h]; exact Or.inl rfl
    ·exact Or.inr (List.mem_cons_of_mem _ h1)
   ·rcases List.mem_cons.1 hv with rfl | hv
    ·omega
    ·exact h3 v hv
 cases l with
 | nil => exact absurd rfl h
 | cons a l =>
  obtain ⟨h1, h2, h3⟩ := key (a :: l) a
  refine ⟨?_, fun v hv => h3 v hv⟩
  unfold Lib.maxOf
  rcases h1 with h1 | h1
  ·simp only [List.headD_cons]; rw [h1]; exact List.mem_cons_self ..
  ·exact h1
/-- The width of the steps above the least. -/
def fw (l : List Int) : Nat := Lib.bitLen (Lib.maxOf l - Lib.minOf l).toNat
/-- The steps above the least. -/
def fs (l : List Int) : List Int := l.map fun v => v - Lib.minOf l
def frame (l : List Int) : List Int := num (Lib.minOf l) ++ [(fw l : Int)] ++ pb (allbits (fs l) (fw l))
theorem fw_le {l : List Int} (h : Okv l) (hn : l ≠ []) : fw l ≤ 51 := by
 have h1 := h.2 _ (maxOf_ge l hn).1
 have h2 := h.2 _ (minOf_le l hn).1
 exact Lib.bitLen_le _ 51 (by omega) (by omega)
theorem fs_range {l : List Int} (h : Okv l) (hn : l ≠ []) : ∀ v ∈ fs l, 0 ≤ v ∧ v ≤ Lib.maxOf l - Lib.minOf l := by
 intro v hv
 obtain ⟨u, hu, rfl⟩ := List.mem_map.1 hv
 have h1 := (minOf_le l hn).2 u hu
 have h2 := (maxOf_ge l hn).2 u hu
 omega
theorem e_l4 {l : List Int} (h : Okv l) (hn : l ≠ []) {base : List Int} (hb : base.length ≤ 1000000) (d : Nat) : ∀ i : Nat, i ≤ l.length → l.length - i ≤ d →
 Ev (fun k => e_encode.l4 k base (Lib.minOf l) (fw l : Int) ((l.take i).map fun v => v - Lib.minOf l) l (l.length : Int) (i : Int)) (base ++ pb (allbits (fs l) (fw l))) := by
 have h1 := h.2 _ (maxOf_ge l hn).1
 have h2 := h.2 _ (minOf_le l hn).1
 have hl := h.1
 have done : Ev (fun k => (e_packed.f k base (fs l) (fw l : Int)).bind fun t207 => some t207) (base ++ pb (allbits (fs l) (fw l))) :=
  Ev.bind (packed_ev (by omega) (by simpa [fs] using hl) (by have := fw_le h hn; omega) (fun v hv => by have := fs_range h hn v hv; omega)) (ev_some _)
 induction d with
 | zero =>
  intro i hi hd
  refine Ev.step (fun k => by rw [e_encode.l4]) (ev_neg (by omega) ?_)
  rw [List.take_of_length_le (by omega)]
  exact done
 | succ d ih =>
  intro i hi hd
  refine Ev.step (fun k => by rw [e_encode.l4]) ?_
  by_cases hlt : i < l.length
  ·have hb := h.2 _ (mem_getD hlt)
   refine ev_pos (by omega) (ev_pos (by omega) (ev_pos (by omega) (ev_pos (by simp; omega) ?_)))
   rw [rdD, w64 (by omega) (by omega), w64 (by omega) (by omega)]
   have := ih (i + 1) (by omega) (by omega)
   rw [List.take_add_one, List.map_append] at this
   simpa [List.getD, hlt] using this
  ·refine ev_neg (by omega) ?_
   rw [List.take_of_length_le (by omega)]
   exact done
/-- The steps from value to value, either way. -/
def dlt : Int → List Int → List Int
 | _, [] => []
 | p, b :: t => num (b - p) ++ dlt b t
theorem dlt_len : ∀ (p : Int) (l : List Int), (∀ v ∈ p :: l, -1000000000000000 ≤ v ∧ v ≤ 1000000000000000) → (dlt p l).length ≤ 10 * l.length
 | p, [], _ => by simp [dlt]
 | p, b :: t, hv => by
  have h1 := dlt_len b t (fun v h => hv v (List.mem_cons_of_mem _ h))
  have h2 := hv p (List.mem_cons_self ..)
  have h3 := hv b (by simp)
  have := num_len (v := b - p) (by omega) (by omega)
  rw [dlt, List.length_append, List.length_cons]
  omega
theorem e_l5 {l : List Int} (h : Okv l) (d : Nat) : ∀ (i : Nat) (p : Int) (out : List Int), i ≤ l.length → l.length - i ≤ d → (-1000000000000000 ≤ p ∧ p ≤ 1000000000000000) → out.length + 10 * (l.length - i) ≤ 1000000 →
 Ev (fun k => e_encode.l5 k out p l (l.length : Int) (i : Int)) (out ++ dlt p (l.drop i)) := by
 have hn := h.1
 induction d with
 | zero =>
  intro i p out hi hd hp ho
  refine Ev.step (fun k => by rw [e_encode.l5]) (ev_neg (by omega) ?_)
  rw [List.drop_eq_nil_of_le (by omega)]
  simpa [dlt] using ev_some out
 | succ d ih =>
  intro i p out hi hd hp ho
  refine Ev.step (fun k => by rw [e_encode.l5]) ?_
  by_cases hlt : i < l.length
  ·have hb := h.2 _ (mem_getD hlt)
   have hl := num_len (v := l.getD i 0 - p) (by omega) (by omega)
   refine ev_pos (by omega) (ev_pos (by omega) (ev_pos (by omega) ?_))
   rw [rdD, w64 (by omega) (by omega), w64 (by omega) (by omega)]
   refine Ev.bind (number_ev (by omega) (by omega) (by omega)) ?_
   refine ev_eq (ih (i + 1) (l.getD i 0) (out ++ num (l.getD i 0 - p)) (by omega) (by omega) hb (by rw [List.length_append]; omega)) ?_
   rw [getD_drop_head (d := 0) hlt, dlt, List.append_assoc]
  ·refine ev_neg (by omega) ?_
   rw [List.drop_eq_nil_of_le (by omega)]
   simpa [dlt] using ev_some out
/-- What stands behind the count. -/
def body (c : Nat) (l : List Int) : List Int := if c = 1 then nums l else if c = 2 then rle l else if c = 3 then dict l else if c = 4 then frame l else dlt 0 l
/-- What is encoded. -/
def enc (c : Nat) (l : List Int) : List Int := (c : Int) :: cnt l.length ++ if l = [] then [] else body c l
theorem e_ev {c : Nat} (h1 : 1 ≤ c) (h5 : c ≤ 5) {l : List Int} (h : Okv l) : Ev (fun k => e_encode.f k (c : Int) l) (enc c l) := by
 have hn := h.1
 have hcl := cnt_len10 (n := l.length) (by omega)
 have h4 : ∀ v ∈ l, -4000000000000000 ≤ v ∧ v ≤ 4000000000000000 := fun v hv => by have := h.2 v hv; omega
 unfold e_encode.f
 rw [Int.emod_eq_of_lt (show 0 ≤ (c : Int) by omega) (by omega), u64w, Int.emod_eq_of_lt (show 0 ≤ (l.length : Int) by omega) (by omega)]
 refine Ev.bind (count_ev (by omega) (by simp)) ?_
 unfold enc
 by_cases hz : l = []
 ·rw [if_pos hz]
  exact ev_pos (by rw [hz]; rfl) (ev_eq (ev_some _) (by simp))
 ·rw [if_neg hz]
  have hp := List.length_pos_iff.2 hz
  refine ev_neg (by omega) ?_
  have hout : ([(c : Int)] ++ cnt l.length).length ≤ 11 := by rw [List.length_append, List.length_singleton]; omega
  unfold body
  by_cases e1 : c = 1
  ·rw [if_pos e1]
   exact ev_pos (by omega) (e_l0 hn h4 _ 0 _ (by omega) (Nat.le_refl _) (by omega))
  rw [if_neg e1]
  refine ev_neg (by omega) ?_
  by_cases e2 : c = 2
  ·rw [if_pos e2]
   exact ev_pos (by omega) (e_l1 l hn h4 _ 0 _ (by omega) (Nat.le_refl _) (by omega))
  rw [if_neg e2]
  refine ev_neg (by omega) ?_
  by_cases e3 : c = 3
  ·rw [if_pos e3]
   have hdl := dst_len l
   have hdp := dst_ne hz
   have hm := h.2 _ (((dst_sorted l).2 _).1 (mem_getD hdp))
   have hc2 := cnt_len10 (n := (dst l).length) (by omega)
   have hnl := num_len (v := (dst l).getD 0 0) (by omega) (by omega)
   refine ev_pos (by omega) (Ev.bind (distinct_ev hn) ?_)
   dsimp only
   rw [u64w, Int.emod_eq_of_lt (show 0 ≤ ((dst l).length : Int) by omega) (by omega)]
   refine Ev.bind (count_ev (by omega) (by omega)) (ev_pos (by omega) ?_)
   rw [show (0 : Int) = ((0 : Nat) : Int) from rfl, rdD]
   refine Ev.bind (number_ev (by omega) (by omega) (by rw [List.length_append]; omega)) ?_
   refine ev_eq (e_l3 hn h.2 _ 0 _ (by omega) (Nat.le_refl _) (by rw [List.length_append, List.length_append]; omega)) ?_
   unfold dict
   simp only [List.append_assoc, List.cons_append, List.nil_append]
  rw [if_neg e3]
  refine ev_neg (by omega) ?_
  by_cases e4 : c = 4
  ·rw [if_pos e4]
   have hx := h.2 _ (maxOf_ge l hz).1
   have hm := h.2 _ (minOf_le l hz).1
   have hle := (minOf_le l hz).2 _ (maxOf_ge l hz).1
   have hfw := fw_le h hz
   have hnl := num_len (v := Lib.minOf l) (by omega) (by omega)
   unfold s_Min.f s_Max.f
   rw [if_neg hz, if_neg hz]
   refine ev_pos (by omega) (Ev.bind (ev_some _) (Ev.bind (ev_some _) (Ev.bind (ev_some _) ?_)))
   rw [w64 (by omega) (by omega), width_ev (by omega) (by omega)]
   refine Ev.bind (ev_some _) (Ev.bind (number_ev (by omega) (by omega) (by omega)) (ev_pos (by rw [List.length_append]; omega) ?_))
   have ew : ((Lib.bitLen (Lib.maxOf l - Lib.minOf l).toNat : Nat) : Int) % 256 = (fw l : Int) := by
    have : Lib.bitLen (Lib.maxOf l - Lib.minOf l).toNat = fw l := rfl
    rw [this]; omega
   rw [ew]
   refine ev_eq (e_l4 h hz (base := [(c : Int)] ++ cnt l.length ++ num (Lib.minOf l) ++ [(fw l : Int)]) (by simp only [List.length_append, List.length_singleton]; omega) _ 0 (by omega) (Nat.le_refl _)) ?_
   unfold frame
   simp only [List.append_assoc, List.cons_append, List.nil_append]
  rw [if_neg e4]
  exact ev_neg (by omega) (e_l5 h _ 0 0 _ (by omega) (Nat.le_refl _) (by omega) (by omega))
theorem enc_len {c : Nat} {l : List Int} (h : Okv l) : (enc c l).length ≤ 100000 := by
 have hn := h.1
 have hcl := cnt_len10 (n := l.length) (by omega)
 have h4 : ∀ v ∈ l, -4000000000000000 ≤ v ∧ v ≤ 4000000000000000 := fun v hv => by have := h.2 v hv; omega
 unfold enc
 rw [List.length_append, List.length_cons]
 split
 ·simp; omega
 ·rename_i hz
  unfold body
  split
  ·have := nums_len h4; omega
  split
  ·have := rle_len _ l (Nat.le_refl _) hn h4; omega
  split
  ·have hdl := dst_len l
   have hdp := dst_ne hz
   have hs := dst_sorted l
   have hm := h.2 _ ((hs.2 _).1 (mem_getD hdp))
   have hc2 := cnt_len10 (n := (dst l).length) (by omega)
   have hnl := num_len (v := (dst l).getD 0 0) (by omega) (by omega)
   have hcons : (dst l).getD 0 0 :: (dst l).drop 1 = dst l := by
    have := getD_drop_head (d := 0) hdp
    rw [List.drop_zero] at this
    exact this.symm
   have hdf := dif_len ((dst l).getD 0 0) ((dst l).drop 1) (by rw [hcons]; exact hs.1) (by rw [hcons]; exact fun v hv => h.2 v ((hs.2 v).1 hv))
   have hpb := pb_len_le (l := pls l) (w := Lib.bitLen ((dst l).length - 1)) (by rw [pls_len]; exact hn) (bitLen64 (by omega))
   unfold dict
   rw [List.length_drop] at hdf
   simp only [List.length_append]
   omega
  split
  ·have hm := h.2 _ (minOf_le l hz).1
   have hnl := num_len (v := Lib.minOf l) (by omega) (by omega)
   have hfw := fw_le h hz
   have hpb := pb_len_le (l := fs l) (w := fw l) (by simpa [fs] using hn) (by omega)
   unfold frame
   simp only [List.length_append, List.length_singleton]
   omega
  ·have := dlt_len 0 l (fun v hv => by
    rcases List.mem_cons.1 hv with rfl | hv
    ·omega
    ·exact h.2 v hv)
   omega
def inR (v : Int) : Bool := decide (-1000000000000000 ≤ v) && decide (v ≤ 1000000000000000)
/-- What check answers. -/
def chk (l : List Int) : Int := if l.length > 2000 then 2 else if l.all inR then 0 else 1
theorem chk_ok {l : List Int} : chk l = 0 ↔ Okv l := by
 unfold chk Okv
 by_cases h : l.length > 2000
 ·rw [if_pos h]
  exact ⟨fun h => by omega, fun h' => by omega⟩
 ·rw [if_neg h]
  by_cases ha : l.all inR = true
  ·rw [if_pos ha]
   rw [List.all_eq_true] at ha
   exact ⟨fun _ => ⟨by omega, fun v hv => by have := ha v hv; simp [inR] at this; exact this⟩, fun _ => rfl⟩
  ·rw [if_neg ha]
   exact ⟨fun h => by omega, fun h' => absurd (List.all_eq_true.2 fun v hv => by have := h'.2 v hv; simp [inR]; exact this) ha⟩
theorem in_eq (lo hi v : Int) : kit_In.f v lo hi = some (decide (lo ≤ v) && decide (v ≤ hi)) := by
 unfold kit_In.f
 by_cases h : lo ≤ v
 ·rw [if_pos h]; simp [h]
 ·rw [if_neg h]; simp [h]
theorem check_ev (l : List Int) : Ev (fun k => e_check.f k l) (chk l) := by
 unfold e_check.f chk
 by_cases h : l.length > 2000
 ·rw [if_pos h]
  exact ev_pos (by omega) (ev_some _)
 ·rw [if_neg h]
  refine ev_neg (by omega) ?_
  have key : ∀ n (i : Nat), i ≤ l.length → l.length - i ≤ n → Ev (fun k => e_check.l0 k l (l.length : Int) (i : Int)) (if (l.drop i).all inR then 0 else 1) := by
   intro n
   induction n with
   | zero =>
    intro i hi hn
    refine Ev.step (fun k => by rw [e_check.l0]) (ev_neg (by omega) ?_)
    rw [List.drop_eq_nil_of_le (by omega)]
    exact ev_some _
   | succ n ih =>
    intro i hi hn
    refine Ev.step (fun k => by rw [e_check.l0]) ?_
    by_cases hlt : i < l.length
    ·refine ev_pos (by omega) (ev_pos (by omega) (ev_pos (by omega) ?_))
     rw [rdD, in_eq, getD_drop_head (d := 0) hlt, List.all_cons]
     refine Ev.bind (ev_some _) ?_
     by_cases hin : inR (l.getD i 0) = true
     ·refine ev_pos hin ?_
      rw [hin, Bool.true_and, w64 (by omega) (by omega)]
      exact ih (i + 1) (by omega) (by omega)
     ·refine ev_neg hin ?_
      rw [eq_false_of_ne_true hin]
      exact ev_some _
    ·refine ev_neg (by omega) ?_
     rw [List.drop_eq_nil_of_le (by omega)]
     exact ev_some _
  exact key _ 0 (by omega) (Nat.le_refl _)
/-- What Encode answers. -/
def encAns (c : Int) (l : List Int) : List Int × Int := if 1 ≤ c ∧ c ≤ 5 then (if chk l = 0 then (enc c.toNat l, 0) else ([], chk l)) else ([], 4)
theorem Encode_ev (c : Int) (l : List Int) : Ev (fun k => e_Encode.f k c l) (encAns c l) := by
 unfold e_Encode.f encAns
 rw [in_eq]
 refine Ev.bind (ev_some _) ?_
 by_cases hc : 1 ≤ c ∧ c ≤ 5
 ·rw [if_pos hc]
  refine ev_pos (by simpa using hc) (Ev.bind (check_ev l) ?_)
  by_cases h0 : chk l = 0
  ·rw [if_pos h0]
   have := e_ev (c := c.toNat) (by omega) (by omega) (chk_ok.1 h0)
   rw [Int.toNat_of_nonneg (by omega)] at this
   exact ev_pos h0 (Ev.bind this (ev_some _))
  ·rw [if_neg h0]
   exact ev_neg h0 (ev_some _)
 ·rw [if_neg hc]
  exact ev_neg (by simpa using hc) (ev_some _)
theorem awake_e : Ev (fun k => peristylelaw2_awake.f k) true := by
 have key : ∀ d, peristylelaw2_awake.f (30 + d) = some true := by
  intro d
  induction d with
  | zero => decide +kernel
  | succ d ih => exact peristylelaw2_awake.mono _ _ ih
 exact ⟨30, fun k hk => by
  have := key (k - 30)
  rwa [show 30 + (k - 30) = k by omega] at this⟩
/-- Bytes. -/
def Byt (s : List Int) : Prop := ∀ x ∈ s, 0 ≤ x ∧ x ≤ 255
theorem Byt.drop {s : List Int} (h : Byt s) (n : Nat) : Byt (s.drop n) := fun x hx => h x (List.mem_of_mem_drop hx)
theorem Byt.rc {s : List Int} (h : Byt s) : Byt (rc 8 0 0 s).2.1 := by
 obtain ⟨m, hm, _⟩ := rc_suf 8 0 0 s
 rw [hm]
 exact h.drop m
theorem rc_le (s : List Int) : (rc 8 0 0 s).2.1.length ≤ s.length := by
 obtain ⟨m, hm, _⟩ := rc_suf 8 0 0 s
 rw [hm, List.length_drop]
 omega
theorem byteB (s : List Int) (bad : Bool) (h : Byt s) : er_byte.f s bad = some (s.headD 0, s.tail, bad || s.isEmpty) := by
 cases s with
 | nil => simp [er_byte.f, wrap64]
 | cons b t =>
  have hb := h b (List.mem_cons_self ..)
  simp [er_byte.f, w64 (show -9223372036854775808 ≤ b by omega) (show b ≤ 9223372036854775807 by omega)]
theorem rcB_ev (bad : Bool) (m : Nat) : ∀ (i : Nat) (v : Int) (s : List Int), i + m = 8 → 0 ≤ v → v < 128 ^ i → Byt s → Ev (fun k => er_count.l0 k v (i : Int) s bad) ((rc m i v s).1, (rc m i v s).2.1, bad || (rc m i v s).2.2) := by
 induction m with
 | zero =>
  intro i v s hi h0 hv hs
  refine Ev.step (fun k => by rw [er_count.l0]) (ev_neg (by omega) ?_)
  exact ev_eq (ev_some _) (by simp [rc])
 | succ m ih =>
  intro i v s hi h0 hv hs
  have e7 : wrap64 (7 * (i : Int)) = ((7 * i : Nat) : Int) := by rw [w64 (by omega) (by omega)]; omega
  refine Ev.step (fun k => by rw [er_count.l0]) (ev_pos (by omega) ?_)
  rw [byteB s bad hs, e7]
  cases s with
  | nil =>
   refine Ev.bind (ev_some _) (ev_pos (by omega) (ev_pos (show (0 : Int) < 128 by omega) ?_))
   show Ev (fun k => some (Go.bits .or .i64 v (shl .i64 (Go.bits .and .i64 0 127) ((7 * i : Nat) : Int)), ([] : List Int), bad || true)) (v, [], bad || true)
   rw [orshl0 h0 hv (by omega)]
   exact ev_some _
  | cons b t =>
   have hb := hs b (List.mem_cons_self ..)
   refine Ev.bind (ev_some _) (ev_pos (by omega) ?_)
   show Ev (fun k => if b < 128 then some (Go.bits .or .i64 v (shl .i64 (Go.bits .and .i64 b 127) ((7 * i : Nat) : Int)), t, bad || false) else er_count.l0 k (Go.bits .or .i64 v (shl .i64 (Go.bits .and .i64 b 127) ((7 * i : Nat) : Int))) (wrap64 ((i : Int) + 1)) t (bad || false)) ((rc (m + 1) i v (b :: t)).1, (rc (m + 1) i v (b :: t)).2.1, bad || (rc (m + 1) i v (b :: t)).2.2)
   rw [orshl h0 hv hb.1 hb.2 (by omega), Bool.or_false]
   by_cases hlt : b < 128
   ·exact ev_pos hlt (ev_eq (ev_some _) (by rw [rc, if_pos hlt]; simp))
   ·refine ev_neg hlt ?_
    rw [rc, if_neg hlt, w64 (by omega) (by omega)]
    have hst := v_step (b := b) h0 hv
    exact ih (i + 1) _ t (by omega) hst.1 hst.2 (fun x hx => hs x (List.mem_cons_of_mem _ hx))
/-- What a count leaves. -/
def ct (s : List Int) (bad : Bool) : Int × List Int × Bool := ((rc 8 0 0 s).1, (rc 8 0 0 s).2.1, bad || (rc 8 0 0 s).2.2)
theorem ct_ev {s : List Int} (bad : Bool) (hs : Byt s) : Ev (fun k => er_count.f k s bad) (ct s bad) :=
 rcB_ev bad 8 0 0 s rfl (by omega) (by simp) hs
theorem ct_val (s : List Int) (bad : Bool) : 0 ≤ (ct s bad).1 ∧ (ct s bad).1 < 72057594037927936 := by
 have := rc_val 8 0 0 s (by omega) (by simp)
 exact ⟨this.1, by show (rc 8 0 0 s).1 < _; omega⟩
theorem ct_byt {s : List Int} {bad : Bool} (h : Byt s) : Byt (ct s bad).2.1 := h.rc
theorem ct_bad (s : List Int) : (ct s true).2.2 = true := rfl
theorem ct_cnt {n : Nat} (rest : List Int) (hn : n < 72057594037927936) : ct (cnt n ++ rest) false = ((n : Int), rest, false) := by
 unfold ct
 rw [rc_cnt8 rest hn]
 rfl
/-- What a length leaves. -/
def lt_ (s : List Int) (bad : Bool) : Int × List Int × Bool := if (ct s bad).1 > 2000 then (0, (ct s bad).2.1, true) else ct s bad
theorem lt_ev {s : List Int} (bad : Bool) (hs : Byt s) : Ev (fun k => er_long.f k s bad) (lt_ s bad) := by
 unfold er_long.f lt_
 refine Ev.bind (ct_ev bad hs) ?_
 by_cases h : (ct s bad).1 > 2000
 ·rw [if_pos h, if_pos h]; exact ev_some _
 ·rw [if_neg h, if_neg h]; exact ev_some _
theorem lt_val (s : List Int) (bad : Bool) : 0 ≤ (lt_ s bad).1 ∧ (lt_ s bad).1 ≤ 2000 := by
 have := ct_val s bad
 unfold lt_
 split
 ·exact ⟨by simp, by simp⟩
 ·exact ⟨this.1, by omega⟩
theorem lt_byt {s : List Int} {bad : Bool} (h : Byt s) : Byt (lt_ s bad).2.1 := by
 unfold lt_
 split
 ·exact ct_byt (bad := bad) h
 ·exact ct_byt (bad := bad) h
theorem lt_cnt {n : Nat} (rest : List Int) (hn : n ≤ 2000) : lt_ (cnt n ++ rest) false = ((n : Int), rest, false) := by
 unfold lt_
 rw [ct_cnt rest (by omega), if_neg (by simp; omega)]
def bitN (s : List Int) (p : Nat) : Int := s.getD (p / 8) 0 / 2 ^ (7 - p % 8) % 2
/-- The number of j bits from bit p on. -/
def bv (s : List Int) (p : Nat) : Nat → Int
 | 0 => 0
 | j + 1 => 2 * bv s p j + bitN s (p + j)
theorem bv_bound (s : List Int) (p j : Nat) : 0 ≤ bv s p j ∧ bv s p j < 2 ^ j := by
 induction j with
 | zero => simp [bv]
 | succ j ih =>
  have h : 0 ≤ bitN s (p + j) ∧ bitN s (p + j) ≤ 1 := by unfold bitN; omega
  rw [bv, Int.pow_succ]
  omega
theorem bit_eq {s : List Int} (h : Byt s) (p : Nat) : wrap64 (Go.bits .and .u8 (shr .u8 (rd s ((p / 8 : Nat) : Int)) ((7 - p % 8 : Nat) : Int)) 1) = bitN s p := by
 rw [rdD]
 unfold shr bitN
 have hb : 0 ≤ s.getD (p / 8) 0 ∧ s.getD (p / 8) 0 ≤ 255 := by
  by_cases hl : p / 8 < s.length
  ·exact h _ (mem_getD hl)
  ·rw [getD_out (by omega)]; omega
 rw [Int.toNat_natCast, Nat.min_eq_left (show 7 - p % 8 ≤ IntKind.u8.bits by show 7 - p % 8 ≤ 8; omega)]
 have hp : (0 : Int) < 2 ^ (7 - p % 8) := Int.pow_pos (by omega)
 have h2 : 0 ≤ s.getD (p / 8) 0 / 2 ^ (7 - p % 8) := Int.ediv_nonneg hb.1 (by omega)
 have h3 : s.getD (p / 8) 0 / 2 ^ (7 - p % 8) ≤ s.getD (p / 8) 0 := Int.ediv_le_self _ hb.1
 rw [show Go.bits .and .u8 (s.getD (p / 8) 0 / 2 ^ (7 - p % 8)) 1 = s.getD (p / 8) 0 / 2 ^ (7 - p % 8) % 2 from bits_mask .u8 8 (by decide) wraps_u8 1 (by decide) _ h2 (by omega)]
 rw [w64 (by omega) (by omega)]
theorem td8 (n : Nat) (h : n ≤ 1000000000) : wrap64 (Int.tdiv (n : Int) 8) = ((n / 8 : Nat) : Int) := by
 rw [Int.tdiv_eq_ediv_of_nonneg (by omega), w64 (by omega) (by omega)]
 omega
theorem tm8 (n : Nat) : wrap64 (7 - Int.tmod (n : Int) 8) = ((7 - n % 8 : Nat) : Int) := by
 rw [tmod8, w64 (by omega) (by omega)]
 omega
/-- So many numbers of so many bits. -/
def ups (s : List Int) (m w : Nat) : List Int := (List.range m).map fun i => bv s (i * w) w
theorem ups_len (s : List Int) (m w : Nat) : (ups s m w).length = m := by simp [ups]
theorem pk_l1 {s : List Int} (hs : Byt s) (bad : Bool) (w : Nat) (hw : w ≤ 60) (x27 x28 : Int) (i : Nat) (p : Nat) (hp : p + w ≤ 1000000) (hl : p + w ≤ 8 * s.length) (r : List Int × List Int × Bool) (d : Nat) : ∀ (j : Nat) (row : List Int), j + d = w → i < row.length → row.length ≤ 100000 → row.getD i 0 = bv s p j →
 Ev (fun k => er_packed.l0 k (w : Int) (row.set i (bv s p w)) ((p + w : Nat) : Int) x27 (wrap64 (x28 + 1)) s bad) r →
 Ev (fun k => er_packed.l1 k (w : Int) row ((p + j : Nat) : Int) (i : Int) x27 x28 (w : Int) (j : Int) s bad) r := by
 induction d with
 | zero =>
  intro j row hj hi hr hv h
  obtain rfl : j = w := by omega
  refine Ev.step (fun k => by rw [er_packed.l1]) (ev_neg (by omega) ?_)
  have e : row.set i (bv s p j) = row := by
   rw [← hv]
   refine List.ext_getElem? fun q => ?_
   rw [List.getElem?_set]
   by_cases hq : i = q
   ·subst hq
    rw [if_pos rfl, if_pos hi]
    simp [List.getD, hi]
   ·rw [if_neg hq]
  rw [e] at h
  exact h
 | succ d ih =>
  intro j row hj hi hr hv h
  have hb := bv_bound s p j
  have h60 : (2 : Int) ^ j ≤ 2 ^ 60 := by
   have := Nat.pow_le_pow_right (n := 2) (by omega) (show j ≤ 60 by omega)
   exact_mod_cast this
  have hbit : 0 ≤ bitN s (p + j) ∧ bitN s (p + j) ≤ 1 := by unfold bitN; omega
  refine Ev.step (fun k => by rw [er_packed.l1]) ?_
  rw [td8 (p + j) (by omega), tm8, bit_eq hs, rdD, hv, w64 (n := 2 * bv s p j) (by omega) (by omega), w64 (n := 2 * bv s p j + bitN s (p + j)) (by omega) (by omega), w64 (n := ((p + j : Nat) : Int) + 1) (by omega) (by omega), w64 (n := (j : Int) + 1) (by omega) (by omega)]
  refine ev_pos (by omega) (ev_pos (by omega) (ev_pos (by omega) (ev_pos (by omega) (ev_pos (by omega) (ev_pos (by omega) ?_)))))
  rw [Int.toNat_natCast]
  have := ih (j + 1) (row.set i (2 * bv s p j + bitN s (p + j))) (by omega) (by simpa using hi) (by simpa using hr) (by simp [List.getD, hi, bv]) (by rw [List.set_set]; exact h)
  exact this
theorem pk_ev {s : List Int} (hs : Byt s) (bad : Bool) {m w : Nat} (hm : m ≤ 2000) (hw : w ≤ 60) : Ev (fun k => er_packed.f k s bad (m : Int) (w : Int)) (if s.length = (m * w + 7) / 8 then (ups s m w, [], bad) else ([], s, true)) := by
 have hmul : m * w ≤ 2000 * 60 := Nat.mul_le_mul hm hw
 have hT : wrap64 (Int.tdiv (wrap64 (wrap64 ((m : Int) * (w : Int)) + 7)) 8) = (((m * w + 7) / 8 : Nat) : Int) := by
  rw [show (m : Int) * (w : Int) = ((m * w : Nat) : Int) by rw [Int.natCast_mul], w64 (n := ((m * w : Nat) : Int)) (by omega) (by omega), w64 (n := ((m * w : Nat) : Int) + 7) (by omega) (by omega), Int.tdiv_eq_ediv_of_nonneg (by omega), w64 (by omega) (by omega)]
  omega
 unfold er_packed.f
 rw [hT]
 by_cases hl : s.length = (m * w + 7) / 8
 ·rw [if_pos hl]
  refine ev_pos (by omega) (ev_pos (by omega) (ev_pos (by omega) (Ev.bind (ev_some _) ?_)))
  rw [Int.toNat_natCast, List.length_replicate]
  have key : ∀ d i, i ≤ m → m - i ≤ d → Ev (fun k => er_packed.l0 k (w : Int) (((List.range i).map fun q => bv s (q * w) w) ++ List.replicate (m - i) 0) ((i * w : Nat) : Int) (m : Int) (i : Int) s bad) (ups s m w, [], bad) := by
   intro d
   induction d with
   | zero =>
    intro i hi hd
    refine Ev.step (fun k => by rw [er_packed.l0]) (ev_neg (by omega) ?_)
    rw [show m - i = 0 by omega, List.replicate_zero, List.append_nil, show i = m by omega]
    exact ev_some _
   | succ d ih =>
    intro i hi hd
    refine Ev.step (fun k => by rw [er_packed.l0]) ?_
    by_cases hlt : i < m
    ·refine ev_pos (by omega) ?_
     have hmul2 : (i + 1) * w ≤ m * w := Nat.mul_le_mul (by omega) (Nat.le_refl _)
     rw [Nat.add_mul, Nat.one_mul] at hmul2
     have hlen : (((List.range i).map fun q => bv s (q * w) w) ++ List.replicate (m - i) 0).length = m := by simp; omega
     have := pk_l1 hs bad w hw (m : Int) (i : Int) i (i * w) (by omega) (by omega) (ups s m w, [], bad) w 0 (((List.range i).map fun q => bv s (q * w) w) ++ List.replicate (m - i) 0) (by omega) (by omega) (by omega) ?_ ?_
     ·exact this
     ·rw [List.getD, List.getElem?_append_right (by simp), List.getElem?_replicate, bv]
      split <;> rfl
     ·rw [w64 (by omega) (by omega)]
      have hn := ih (i + 1) (by omega) (by omega)
      rw [Nat.add_mul, Nat.one_mul] at hn
      have e : (((List.range i).map fun q => bv s (q * w) w) ++ List.replicate (m - i) 0).set i (bv s (i * w) w) = ((List.range (i + 1)).map fun q => bv s (q * w) w) ++ List.replicate (m - (i + 1)) 0 := by
       rw [List.set_append_right _ _ (by simp), List.range_succ, List.map_append, show m - i = (m - (i + 1)) + 1 by omega, List.replicate_succ]
       simp
      rw [e]
      exact hn
    ·refine ev_neg (by omega) ?_
     rw [show m - i = 0 by omega, List.replicate_zero, List.append_nil, show i = m by omega]
     exact ev_some _
  have := key m 0 (by omega) (by omega)
  simpa using this
 ·rw [if_neg hl]
  exact ev_neg (by omega) (ev_some _)
theorem ups_range {s : List Int} {m w : Nat} : ∀ v ∈ ups s m w, 0 ≤ v ∧ v < 2 ^ w := by
 intro v hv
 obtain ⟨i, _, rfl⟩ := List.mem_map.1 hv
 exact bv_bound _ _ _
/-- What was packed is read. -/
theorem bitN_pb {bs : List Int} (hb : ∀ b ∈ bs, 0 ≤ b ∧ b ≤ 1) {p : Nat} (hp : p < bs.length) : bitN (pb bs) p = bs.getD p 0 := by
 have e : (pb bs).getD (p / 8) 0 = byteN bs (p / 8) := by simp [List.getD, pb_get (show p / 8 < (bs.length + 7) / 8 by omega)]
 unfold bitN
 rw [e]
 have hq : p = 8 * (p / 8) + p % 8 := by omega
 have h0 := getD_bit hb (8 * (p / 8))
 have h1 := getD_bit hb (8 * (p / 8) + 1)
 have h2 := getD_bit hb (8 * (p / 8) + 2)
 have h3 := getD_bit hb (8 * (p / 8) + 3)
 have h4 := getD_bit hb (8 * (p / 8) + 4)
 have h5 := getD_bit hb (8 * (p / 8) + 5)
 have h6 := getD_bit hb (8 * (p / 8) + 6)
 have h7 := getD_bit hb (8 * (p / 8) + 7)
 have hc : p % 8 = 0 ∨ p % 8 = 1 ∨ p % 8 = 2 ∨ p % 8 = 3 ∨ p % 8 = 4 ∨ p % 8 = 5 ∨ p % 8 = 6 ∨ p % 8 = 7 := by omega
 rw [show bs.getD p 0 = bs.getD (8 * (p / 8) + p % 8) 0 by rw [← hq]]
 unfold byteN
 generalize p / 8 = I at *
 rcases hc with h | h | h | h | h | h | h | h <;> rw [h] <;> (try simp only [Nat.add_zero]) <;> omega
theorem allbits_get {l : List Int} {w i j : Nat} (hi : i < l.length) (hj : j < w) : (allbits l w).getD (i * w + j) 0 = l.getD i 0 / 2 ^ (w - 1 - j) % 2 := by
 have hb : ∀ (v : Int) (w j : Nat), j < w → (bitsOf v w).getD j 0 = v / 2 ^ (w - 1 - j) % 2 := by
  intro v w
  induction w with
  | zero => intro j h; omega
  | succ w ih =>
   intro j h
   cases j with
   | zero => simp [bitsOf, List.getD]
   | succ j =>
    have := ih j (by omega)
    rw [show w + 1 - 1 - (j + 1) = w - 1 - j by omega, ← this]
    simp [bitsOf, List.getD]
 induction l generalizing i with
 | nil => simp at hi
 | cons v l ih =>
  unfold allbits
  rw [List.flatMap_cons]
  cases i with
  | zero =>
   rw [Nat.zero_mul, Nat.zero_add, List.getD, List.getElem?_append_left (by rw [bitsOf_len]; exact hj)]
   have := hb v w j hj
   rw [List.getD] at this
   simpa using this
  | succ i =>
   have := ih (i := i) (by simpa using hi)
   rw [List.getD, List.getElem?_append_right (by rw [bitsOf_len, Nat.add_mul]; omega), bitsOf_len, show (i + 1) * w + j - w = i * w + j by rw [Nat.add_mul]; omega]
   rw [List.getD] at this
   simpa [allbits] using this
theorem ups_pb {l : List Int} {w : Nat} (hv : ∀ v ∈ l, 0 ≤ v ∧ v < 2 ^ w) : ups (pb (allbits l w)) l.length w = l := by
 refine List.ext_getElem? fun i => ?_
 by_cases hi : i < l.length
 ·have hm : i * w + w ≤ l.length * w := by
   have : (i + 1) * w ≤ l.length * w := Nat.mul_le_mul (by omega) (Nat.le_refl _)
   rwa [Nat.add_mul, Nat.one_mul] at this
  have hvi := hv _ (mem_getD hi)
  have key : ∀ j, j ≤ w → bv (pb (allbits l w)) (i * w) j = l.getD i 0 / 2 ^ (w - j) := by
   intro j
   induction j with
   | zero =>
    intro _
    rw [bv, Nat.sub_zero, Int.ediv_eq_zero_of_lt hvi.1 hvi.2]
   | succ j ih =>
    intro hj
    rw [bv, ih (by omega), bitN_pb (allbits_bits _ _) (by rw [allbits_len]; omega), allbits_get hi (by omega)]
    rw [show w - j = (w - (j + 1)) + 1 by omega, Int.pow_succ, show w - 1 - j = w - (j + 1) by omega]
    have hp : (0 : Int) < 2 ^ (w - (j + 1)) := Int.pow_pos (by omega)
    rw [← Int.ediv_ediv_of_nonneg (by omega)]
    omega
  have h2 := key w (Nat.le_refl _)
  rw [Nat.sub_self, Int.pow_zero, Int.ediv_one] at h2
  simp only [ups, List.getElem?_map, List.getElem?_range hi, Option.map_some, h2]
  simp [List.getD, hi]
 ·rw [List.getElem?_eq_none (by rw [ups_len]; omega), List.getElem?_eq_none (by omega)]
theorem eqI_l0 (x y : List Int) (hl : x.length = y.length) (hb : x.length ≤ 140737488355328) (d : Nat) : ∀ i : Nat, i ≤ x.length → x.length - i ≤ d → Ev (fun k => s_Equal.l0 k x y (x.length : Int) (i : Int)) (decide (x.drop i = y.drop i)) := by
 induction d with
 | zero =>
  intro i hi hd
  refine Ev.step (fun k => by rw [s_Equal.l0]) (ev_neg (by omega) ?_)
  rw [List.drop_eq_nil_of_le (show x.length ≤ i by omega), List.drop_eq_nil_of_le (show y.length ≤ i by omega)]
  exact ev_some _
 | succ d ih =>
  intro i hi hd
  refine Ev.step (fun k => by rw [s_Equal.l0]) ?_
  by_cases h : i < x.length
  ·refine ev_pos (by omega) (ev_pos (by omega) (ev_pos (by omega) (ev_pos (by omega) ?_)))
   rw [rdD, rdD, getD_drop_head (d := 0) h, getD_drop_head (d := 0) (show i < y.length by omega)]
   by_cases e : x.getD i 0 = y.getD i 0
   ·refine ev_pos e ?_
    rw [w64 (by omega) (by omega)]
    exact ev_eq (ih (i + 1) (by omega) (by omega)) (by rw [e]; simp)
   ·exact ev_neg e (ev_eq (ev_some _) (by simp only [List.cons.injEq, e, false_and, decide_false]))
  ·refine ev_neg (by omega) ?_
   rw [List.drop_eq_nil_of_le (show x.length ≤ i by omega), List.drop_eq_nil_of_le (show y.length ≤ i by omega)]
   exact ev_some _
theorem eqI_ev {x y : List Int} (hb : x.length ≤ 140737488355328) : Ev (fun k => s_Equal.f k x y) (decide (x = y)) := by
 unfold s_Equal.f
 by_cases hl : x.length = y.length
 ·exact ev_pos (by omega) (eqI_l0 x y hl hb _ 0 (by omega) (Nat.le_refl _))
 ·exact ev_neg (by omega) (ev_eq (ev_some _) (by
   have : x ≠ y := fun h => hl (by rw [h])
   simp [this]))
theorem getD_ne {bs : List Int} {b : Int} {q : Nat} (h : q ≠ bs.length) : (bs ++ [b]).getD q 0 = bs.getD q 0 := by
 by_cases h1 : q < bs.length
 ·exact getD_snoc h1
 ·rw [getD_out (by simp; omega), getD_out (by omega)]
theorem byteN_ne {bs : List Int} {b : Int} {i : Nat} (h : i ≠ bs.length / 8) : byteN (bs ++ [b]) i = byteN bs i := by
 unfold byteN
 rw [getD_ne (by omega), getD_ne (by omega), getD_ne (by omega), getD_ne (by omega), getD_ne (by omega), getD_ne (by omega), getD_ne (by omega), getD_ne (by omega)]
def pbT (T : Nat) (bs : List Int) : List Int := (List.range T).map (byteN bs)
theorem pbT_len (T : Nat) (bs : List Int) : (pbT T bs).length = T := by simp [pbT]
theorem pbT_get {T : Nat} {bs : List Int} {i : Nat} (h : i < T) : (pbT T bs)[i]? = some (byteN bs i) := by simp [pbT, h]
theorem pbT_snoc {T : Nat} {bs : List Int} {b : Int} (h : bs.length / 8 < T) : pbT T (bs ++ [b]) = (pbT T bs).set (bs.length / 8) (byteN bs (bs.length / 8) + b * 2 ^ (7 - bs.length % 8)) := by
 refine List.ext_getElem? fun i => ?_
 rw [List.getElem?_set]
 by_cases hi : bs.length / 8 = i
 ·subst hi
  rw [if_pos rfl, if_pos (by rw [pbT_len]; exact h), pbT_get h, byteN_new]
 ·rw [if_neg hi]
  by_cases hlt : i < T
  ·rw [pbT_get hlt, pbT_get hlt, byteN_ne (fun h => hi h.symm)]
  ·rw [List.getElem?_eq_none (by rw [pbT_len]; omega), List.getElem?_eq_none (by rw [pbT_len]; omega)]
theorem pbT_zero {T : Nat} {bs : List Int} : pbT T (bs ++ [0]) = pbT T bs := by
 unfold pbT
 refine List.map_congr_left fun i _ => ?_
 by_cases h : i = bs.length / 8
 ·subst h; rw [byteN_new]; omega
 ·exact byteN_ne h
theorem rpacked_l1 (T : Nat) (hT : T ≤ 1000000000) (w : Int) (v : Int) (v0 : 0 ≤ v) (v1 : v < 9223372036854775808) (x17 : List Int) (x18 x19 : Int) (r : List Int) (c : Nat) :
 ∀ bs : List Int, (∀ b ∈ bs, 0 ≤ b ∧ b ≤ 1) → bs.length + c ≤ 8 * T → c ≤ 64 →
 Ev (fun k => q_packed.l0 k w (pbT T (bs ++ bitsOf v c)) ((bs.length + c : Nat) : Int) x17 x18 (wrap64 (x19 + 1))) r →
 Ev (fun k => q_packed.l1 k w (pbT T bs) (bs.length : Int) v ((c : Int) - 1) x17 x18 x19) r := by
 induction c with
 | zero =>
  intro bs hb hbl hc h
  refine Ev.step (fun k => by rw [q_packed.l1]) (ev_neg (by omega) ?_)
  simpa [bitsOf] using h
 | succ c ih =>
  intro bs hb hbl hc h
  have e1 : ((c + 1 : Nat) : Int) - 1 = (c : Int) := by omega
  have hbit := bit_of v0 v1 (show c ≤ 64 by omega)
  have b0 : 0 ≤ v / 2 ^ c % 2 := by omega
  have b1 : v / 2 ^ c % 2 ≤ 1 := by omega
  have hr : bs.length % 8 < 8 := Nat.mod_lt _ (by omega)
  have next : Ev (fun k => q_packed.l1 k w (pbT T (bs ++ [v / 2 ^ c % 2])) (wrap64 ((bs.length : Int) + 1)) v (wrap64 ((c : Int) - 1)) x17 x18 x19) r := by
   rw [w64 (n := (bs.length : Int) + 1) (by omega) (by omega), w64 (n := (c : Int) - 1) (by omega) (by omega)]
   have := ih (bs ++ [v / 2 ^ c % 2]) (allbits_bit hb b0 b1) (by simp; omega) (by omega) ?_
   ·rw [List.length_append, List.length_singleton] at this
    exact this
   ·rw [List.append_assoc, List.length_append, List.length_singleton]
    rw [show bs.length + 1 + c = bs.length + (c + 1) by omega]
    exact h
  have ed : wrap64 (Int.tdiv (bs.length : Int) 8) = ((bs.length / 8 : Nat) : Int) := by
   rw [Int.tdiv_eq_ediv_of_nonneg (by omega), w64 (by omega) (by omega)]
   omega
  refine Ev.step (fun k => by rw [q_packed.l1]) ?_
  rw [e1, hbit, ed]
  refine ev_pos (by omega) (ev_pos (by omega) ?_)
  by_cases hone : v / 2 ^ c % 2 = 1
  ·refine ev_pos hone (ev_pos (by omega) (ev_pos (by rw [pbT_len]; omega) (ev_pos (by rw [tmod8]; omega) ?_)))
   have er : rd (pbT T bs) ((bs.length / 8 : Nat) : Int) = byteN bs (bs.length / 8) := by
    rw [rdD]
    simp [List.getD, pbT_get (show bs.length / 8 < T by omega)]
   rw [er, or_shr hb, Int.toNat_natCast, ← pbT_snoc (by omega)]
   rw [hone] at next
   exact next
  ·rw [show v / 2 ^ c % 2 = 0 by omega, pbT_zero] at next
   exact ev_neg hone next
theorem rpacked_ev {l : List Int} {w : Nat} (hn : l.length ≤ 2000) (hw : w ≤ 64) (hv : ∀ v ∈ l, 0 ≤ v ∧ v < 9223372036854775808) :
 Ev (fun k => q_packed.f k l (w : Int)) (pb (allbits l w)) := by
 have hm : l.length * w ≤ 2000 * 64 := Nat.mul_le_mul hn hw
 have hm' : (l.length : Int) * (w : Int) = ((l.length * w : Nat) : Int) := by rw [Int.natCast_mul]
 have hT : wrap64 (Int.tdiv (wrap64 (wrap64 ((l.length : Int) * (w : Int)) + 7)) 8) = (((l.length * w + 7) / 8 : Nat) : Int) := by
  rw [hm', w64 (n := ((l.length * w : Nat) : Int)) (by omega) (by omega), w64 (n := ((l.length * w : Nat) : Int) + 7) (by omega) (by omega), Int.tdiv_eq_ediv_of_nonneg (by omega), w64 (by omega) (by omega)]
  omega
 have fin : pbT ((l.length * w + 7) / 8) (allbits l w) = pb (allbits l w) := by unfold pbT pb; rw [allbits_len]
 have key : ∀ d i, i ≤ l.length → l.length - i ≤ d → Ev (fun k => q_packed.l0 k (w : Int) (pbT ((l.length * w + 7) / 8) (allbits (l.take i) w)) ((i * w : Nat) : Int) l (l.length : Int) (i : Int)) (pb (allbits l w)) := by
  intro d
  induction d with
  | zero =>
   intro i hi hd
   refine Ev.step (fun k => by rw [q_packed.l0]) (ev_neg (by omega) ?_)
   rw [List.take_of_length_le (by omega), fin]
   exact ev_some _
  | succ d ih =>
   intro i hi hd
   refine Ev.step (fun k => by rw [q_packed.l0]) ?_
   by_cases hlt : i < l.length
   ·refine ev_pos (by omega) (ev_pos (by omega) (ev_pos (by omega) ?_))
    have hmm : l.getD i 0 ∈ l := by
     simp only [List.getD, List.getElem?_eq_getElem hlt, Option.getD_some]
     exact List.getElem_mem hlt
    have hvi := hv _ hmm
    have hmul : (i + 1) * w ≤ l.length * w := Nat.mul_le_mul (by omega) (Nat.le_refl _)
    rw [Nat.add_mul, Nat.one_mul] at hmul
    have hal := allbits_len (l.take i) w
    rw [List.length_take, Nat.min_eq_left hi] at hal
    rw [rdD, w64 (by omega) (by omega)]
    have := rpacked_l1 ((l.length * w + 7) / 8) (by omega) (w : Int) (l.getD i 0) hvi.1 hvi.2 l (l.length : Int) (i : Int) (pb (allbits l w)) w (allbits (l.take i) w) (allbits_bits _ _) (by omega) hw ?_
    ·rw [hal] at this
     exact this
    ·rw [hal, ← allbits_take hlt, w64 (by omega) (by omega), show i * w + w = (i + 1) * w by rw [Nat.add_mul, Nat.one_mul]]
     exact ih (i + 1) (by omega) (by omega)
   ·refine ev_neg (by omega) ?_
    rw [List.take_of_length_le (by omega), fin]
    exact ev_some _
 unfold q_packed.f
 rw [hT]
 refine ev_pos (by omega) (ev_pos (by omega) ?_)
 have h0 := key l.length 0 (by omega) (by omega)
 have e0 : pbT ((l.length * w + 7) / 8) (allbits (l.take 0) w) = List.replicate (((l.length * w + 7) / 8 : Nat) : Int).toNat 0 := by
  rw [Int.toNat_natCast]
  unfold pbT allbits
  rw [List.take_zero, List.flatMap_nil]
  refine List.ext_getElem? fun i => ?_
  by_cases h : i < (l.length * w + 7) / 8
  ·rw [List.getElem?_map, List.getElem?_range h, List.getElem?_replicate, if_pos h]
   simp [byteN, List.getD]
  ·rw [List.getElem?_eq_none (by simp; omega), List.getElem?_eq_none (by simp; omega)]
 rw [e0] at h0
 simpa using h0
theorem rwidth_ev {x : Int} (h0 : 0 ≤ x) (h1 : x < 9223372036854775808) : q_width.f x = some ((Lib.bitLen x.toNat : Nat) : Int) := by
 unfold q_width.f bits_Len.f
 rw [u64w, Int.emod_eq_of_lt h0 (by omega), if_pos ⟨h0, by omega⟩]
 rfl
abbrev Ans := List Int × List Int × Bool
theorem rbyteB (s : List Int) (bad : Bool) (h : Byt s) : q_reader_byte.f s bad = some (s.headD 0, s.tail, bad || s.isEmpty) := by
 cases s with
 | nil => simp [q_reader_byte.f, wrap64]
 | cons b t =>
  have hb := h b (List.mem_cons_self ..)
  simp [q_reader_byte.f, w64 (show -9223372036854775808 ≤ b by omega) (show b ≤ 9223372036854775807 by omega)]
theorem head0 {s : List Int} (h : Byt s) : 0 ≤ s.headD 0 ∧ s.headD 0 ≤ 255 := by
 cases s with
 | nil => simp
 | cons b t => exact h b (List.mem_cons_self ..)
theorem Byt.tail {s : List Int} (h : Byt s) : Byt s.tail := by rw [← List.drop_one]; exact h.drop 1
/-- What a count of the reference leaves. -/
def qct (s : List Int) (bad : Bool) : Int × List Int × Bool := if bad = true then (s.headD 0 % 128, s.tail, true) else rc 8 0 0 s
theorem qct_ev {s : List Int} (bad : Bool) (hs : Byt s) : Ev (fun k => q_reader_count.f k s bad) (qct s bad) := by
 cases bad with
 | false => exact rcount2_ev hs
 | true =>
  have hh := head0 hs
  have e : Go.bits .or .i64 0 (shl .i64 (Go.bits .and .i64 (s.headD 0) 127) 0) = s.headD 0 % 128 :=
   (orshl (v := 0) (i := 0) (b := s.headD 0) (by omega) (by simp) hh.1 hh.2 (by omega)).trans (by simp)
  show Ev (fun k => q_reader_count.l0 k 0 0 s true) (s.headD 0 % 128, s.tail, true)
  refine Ev.step (fun k => by rw [q_reader_count.l0]) (ev_pos (by omega) ?_)
  rw [rbyteB s true hs]
  refine Ev.bind (ev_some _) (ev_pos (by omega) ?_)
  dsimp only
  rw [e]
  by_cases h : s.headD 0 < 128
  ·exact ev_pos h (ev_some _)
  ·exact ev_neg h (ev_pos (by simp) (ev_some _))
theorem qct_val (s : List Int) (bad : Bool) : 0 ≤ (qct s bad).1 ∧ (qct s bad).1 < 72057594037927936 := by
 unfold qct
 split
 ·dsimp only; omega
 ·have := rc_val 8 0 0 s (by omega) (by simp)
  exact ⟨this.1, by omega⟩
theorem qct_byt {s : List Int} {bad : Bool} (h : Byt s) : Byt (qct s bad).2.1 := by
 unfold qct
 split
 ·exact h.tail
 ·exact h.rc
theorem qct_bad (s : List Int) : (qct s true).2.2 = true := rfl
theorem qct_cnt {n : Nat} (rest : List Int) (hn : n < 72057594037927936) : qct (cnt n ++ rest) false = ((n : Int), rest, false) := by
 unfold qct
 rw [if_neg (by simp), rc_cnt8 rest hn]
theorem orbit {v b : Int} (h0 : 0 ≤ v) (h1 : v < 1152921504606846976) (b0 : 0 ≤ b) (b1 : b ≤ 1) : Go.bits .or .i64 (v * 2) b = 2 * v + b := by
 obtain ⟨a, rfl⟩ := Int.eq_ofNat_of_zero_le h0
 obtain ⟨c, rfl⟩ := Int.eq_ofNat_of_zero_le b0
 have e := Nat.two_pow_add_eq_or_of_lt (b := c) (i := 1) (by omega) a
 rw [show (a : Int) * 2 = ((2 ^ 1 * a : Nat) : Int) by omega, (bits_nat .i64 63 (by decide) (fun n a b => by rw [IntKind.wrap_i64]; omega) (2 ^ 1 * a) c (by omega) (by omega)).2, ← e]
 omega
theorem q_l1 {s : List Int} (hs : Byt s) (bad : Bool) (m : Int) (w : Nat) (hw : w ≤ 60) (x31 x32 : Int) (i : Nat) (p : Nat) (hp : p + w ≤ 1000000) (hl : p + w ≤ 8 * s.length) (r : Ans) (d : Nat) : ∀ (j : Nat) (row : List Int), j + d = w → i < row.length → row.length ≤ 100000 → row.getD i 0 = bv s p j →
 Ev (fun k => q_reader_unpacked.l0 k m (w : Int) (row.set i (bv s p w)) ((p + w : Nat) : Int) x31 (wrap64 (x32 + 1)) s bad) r →
 Ev (fun k => q_reader_unpacked.l1 k m (w : Int) row ((p + j : Nat) : Int) (i : Int) x31 x32 (w : Int) (j : Int) s bad) r := by
 induction d with
 | zero =>
  intro j row hj hi hr hv h
  obtain rfl : j = w := by omega
  refine Ev.step (fun k => by rw [q_reader_unpacked.l1]) (ev_neg (by omega) ?_)
  have e : row.set i (bv s p j) = row := by
   rw [← hv]
   refine List.ext_getElem? fun q => ?_
   rw [List.getElem?_set]
   by_cases hq : i = q
   ·subst hq
    rw [if_pos rfl, if_pos hi]
    simp [List.getD, hi]
   ·rw [if_neg hq]
  rw [e] at h
  exact h
 | succ d ih =>
  intro j row hj hi hr hv h
  have hb := bv_bound s p j
  have h60 : (2 : Int) ^ j ≤ 2 ^ 59 := by
   have := Nat.pow_le_pow_right (n := 2) (by omega) (show j ≤ 59 by omega)
   exact_mod_cast this
  have hbit : 0 ≤ bitN s (p + j) ∧ bitN s (p + j) ≤ 1 := by unfold bitN; omega
  refine Ev.step (fun k => by rw [q_reader_unpacked.l1]) ?_
  rw [td8 (p + j) (by omega), tm8, bit_eq hs, rdD, hv, w64 (n := bv s p j * 2) (by omega) (by omega), orbit hb.1 (by omega) hbit.1 hbit.2, w64 (n := ((p + j : Nat) : Int) + 1) (by omega) (by omega), w64 (n := (j : Int) + 1) (by omega) (by omega)]
  refine ev_pos (by omega) (ev_pos (by omega) (ev_pos (by omega) (ev_pos (by omega) (ev_pos (by omega) (ev_pos (by omega) ?_)))))
  rw [Int.toNat_natCast]
  exact ih (j + 1) (row.set i (2 * bv s p j + bitN s (p + j))) (by omega) (by simpa using hi) (by simpa using hr) (by simp [List.getD, hi, bv]) (by rw [List.set_set]; exact h)
theorem q_ev {s : List Int} (hs : Byt s) (bad : Bool) {m w : Nat} (hm : m ≤ 2000) (hw : w ≤ 255) : Ev (fun k => q_reader_unpacked.f k s bad (m : Int) (w : Int)) (if w ≤ 60 ∧ (m * w + 7) / 8 ≤ s.length then (ups s m w, s.drop ((m * w + 7) / 8), bad) else ([], s, true)) := by
 have hmul : m * w ≤ 2000 * 255 := Nat.mul_le_mul hm hw
 have hT : wrap64 (Int.tdiv (wrap64 (wrap64 ((m : Int) * (w : Int)) + 7)) 8) = (((m * w + 7) / 8 : Nat) : Int) := by
  rw [show (m : Int) * (w : Int) = ((m * w : Nat) : Int) by rw [Int.natCast_mul], w64 (n := ((m * w : Nat) : Int)) (by omega) (by omega), w64 (n := ((m * w : Nat) : Int) + 7) (by omega) (by omega), Int.tdiv_eq_ediv_of_nonneg (by omega), w64 (by omega) (by omega)]
  omega
 have stop : Ev (fun k => q_reader_unpacked.j0 k (m : Int) (w : Int) true s bad) ([], s, true) :=
  Ev.step (fun k => by rw [q_reader_unpacked.j0]) (ev_pos rfl (ev_some _))
 unfold q_reader_unpacked.f
 rw [hT]
 by_cases h60 : w ≤ 60
 ·refine ev_neg (by omega) ?_
  by_cases hl : (m * w + 7) / 8 ≤ s.length
  ·rw [if_pos ⟨h60, hl⟩, show decide ((((m * w + 7) / 8 : Nat) : Int) > (s.length : Int)) = false by simp; omega]
   refine Ev.step (fun k => by rw [q_reader_unpacked.j0]) (ev_neg (by simp) (ev_pos (by omega) (ev_pos (by omega) (Ev.bind (ev_some _) ?_))))
   rw [Int.toNat_natCast, List.length_replicate]
   have fin : ∀ x8 : Int, Ev (fun k => q_reader_unpacked.l0 k (m : Int) (w : Int) (ups s m w) x8 (m : Int) (m : Int) s bad) (ups s m w, s.drop ((m * w + 7) / 8), bad) := by
    intro x8
    refine Ev.step (fun k => by rw [q_reader_unpacked.l0]) ?_
    rw [hT, Int.toNat_natCast]
    exact ev_neg (by omega) (ev_pos (by omega) (ev_pos (by omega) (ev_some _)))
   have key : ∀ d i, i ≤ m → m - i ≤ d → Ev (fun k => q_reader_unpacked.l0 k (m : Int) (w : Int) (((List.range i).map fun q => bv s (q * w) w) ++ List.replicate (m - i) 0) ((i * w : Nat) : Int) (m : Int) (i : Int) s bad) (ups s m w, s.drop ((m * w + 7) / 8), bad) := by
    intro d
    induction d with
    | zero =>
     intro i hi hd
     rw [show m - i = 0 by omega, List.replicate_zero, List.append_nil, show i = m by omega]
     exact fin _
    | succ d ih =>
     intro i hi hd
     by_cases hlt : i < m
     ·refine Ev.step (fun k => by rw [q_reader_unpacked.l0]) (ev_pos (by omega) ?_)
      have hmul2 : (i + 1) * w ≤ m * w := Nat.mul_le_mul (by omega) (Nat.le_refl _)
      rw [Nat.add_mul, Nat.one_mul] at hmul2
      have hlen : (((List.range i).map fun q => bv s (q * w) w) ++ List.replicate (m - i) 0).length = m := by simp; omega
      have := q_l1 hs bad (m : Int) w h60 (m : Int) (i : Int) i (i * w) (by omega) (by omega) (ups s m w, s.drop ((m * w + 7) / 8), bad) w 0 (((List.range i).map fun q => bv s (q * w) w) ++ List.replicate (m - i) 0) (by omega) (by omega) (by omega) ?_ ?_
      ·exact this
      ·rw [List.getD, List.getElem?_append_right (by simp), List.getElem?_replicate, bv]
       split <;> rfl
      ·rw [w64 (by omega) (by omega)]
       have hn := ih (i + 1) (by omega) (by omega)
       rw [Nat.add_mul, Nat.one_mul] at hn
       have e : (((List.range i).map fun q => bv s (q * w) w) ++ List.replicate (m - i) 0).set i (bv s (i * w) w) = ((List.range (i + 1)).map fun q => bv s (q * w) w) ++ List.replicate (m - (i + 1)) 0 := by
        rw [List.set_append_right _ _ (by simp), List.range_succ, List.map_append, show m - i = (m - (i + 1)) + 1 by omega, List.replicate_succ]
        simp
       rw [e]
       exact hn
     ·rw [show m - i = 0 by omega, List.replicate_zero, List.append_nil, show i = m by omega]
      exact fin _
   have := key m 0 (by omega) (by omega)
   simpa using this
  ·rw [if_neg (fun h => hl h.2), show decide ((((m * w + 7) / 8 : Nat) : Int) > (s.length : Int)) = true by simp; omega]
   exact stop
 ·rw [if_neg (fun h => h60 h.1)]
  exact ev_pos (by omega) stop
def mk8 (l : List UInt8) : ByteArray := ⟨l.toArray⟩
theorem mk8_data (l : List UInt8) : (mk8 l).data.toList = l := by simp [mk8]
theorem mk8_of (s : ByteArray) : mk8 s.data.toList = s := by simp [mk8]
theorem size8 (s : ByteArray) : s.data.toList.length = s.size := by rw [Array.length_toList]; rfl
theorem mk8_size (l : List UInt8) : (mk8 l).size = l.length := by rw [← size8, mk8_data]
theorem ext8 {s t : ByteArray} (h : s.data.toList = t.data.toList) : s = t := by rw [← mk8_of s, ← mk8_of t, h]
theorem bless (a b : ByteArray) : Op.bytesLess a.toList b.toList = decide (a.data.toList < b.data.toList) := by rw [bytesLess_eq, Lib.toList_data, Lib.toList_data]
def n8 (l : List UInt8) : List Int := l.map fun b => (b.toNat : Int)
theorem n8_of (s : ByteArray) : bytesOf s = n8 s.data.toList := rfl
theorem n8_len (l : List UInt8) : (n8 l).length = l.length := by simp [n8]
theorem n8_byt (l : List UInt8) : Byt (n8 l) := by
 intro x hx
 obtain ⟨b, _, rfl⟩ := List.mem_map.1 hx
 have := UInt8.toNat_lt b
 omega
theorem str_n8 (l : List UInt8) : strOfNums (n8 l) = mk8 l := by
 refine ext8 ?_
 rw [mk8_data]
 show (n8 l).map (fun n => UInt8.ofNat n.toNat) = l
 unfold n8
 rw [List.map_map]
 conv => rhs; rw [← List.map_id l]
 refine List.map_congr_left fun b _ => ?_
 simp
theorem btD {s : ByteArray} {i : Nat} (h : i < s.size) : bt s (i : Int) = ((s.data.toList.getD i 0).toNat : Int) := by
 have hl : i < s.data.toList.length := by rw [size8]; exact h
 unfold bt
 rw [dif_pos (show (i : Int).toNat < s.size by simpa using h)]
 simp only [Int.toNat_natCast, List.getD, List.getElem?_eq_getElem hl, Option.getD_some]
 rfl
def okb (b : UInt8) : Bool := decide (32 ≤ (b.toNat : Int)) && decide ((b.toNat : Int) ≤ 126)
/-- What CheckValue answers of a text. -/
def cv (s : ByteArray) : Int := if s.size > 200 then 2 else if s.data.toList.all okb then 0 else 3
theorem cv_ev (s : ByteArray) : Ev (fun k => value_CheckValue.f k 3 0 s) (cv s) := by
 unfold value_CheckValue.f cv
 refine ev_neg (by omega) (ev_neg (by omega) (Ev.step (fun k => by rw [value_CheckValue.j0]) (ev_neg (by simp) (ev_pos rfl (ev_pos rfl ?_)))))
 by_cases hb : s.size > 200
 ·rw [if_pos hb]
  exact ev_pos (by omega) (ev_some _)
 ·rw [if_neg hb]
  refine ev_neg (by omega) ?_
  have key : ∀ d i : Nat, i ≤ s.size → s.size - i ≤ d → Ev (fun k => value_CheckValue.l0 k (s.size : Int) (i : Int) 3 0 s) (if (s.data.toList.drop i).all okb then 0 else 3) := by
   intro d
   induction d with
   | zero =>
    intro i hi hd
    refine Ev.step (fun k => by rw [value_CheckValue.l0]) (ev_neg (by omega) ?_)
    rw [List.drop_eq_nil_of_le (by rw [size8]; omega)]
    exact ev_some _
   | succ d ih =>
    intro i hi hd
    refine Ev.step (fun k => by rw [value_CheckValue.l0]) ?_
    by_cases hlt : i < s.size
    ·have hl : i < s.data.toList.length := by rw [size8]; exact hlt
     have h255 := UInt8.toNat_lt (s.data.toList.getD i 0)
     refine ev_pos (by omega) (ev_pos (by omega) (ev_pos (by omega) ?_))
     rw [btD hlt, w64 (n := ((s.data.toList.getD i 0).toNat : Int)) (by omega) (by omega), in_eq, getD_drop_head (d := 0) hl, List.all_cons]
     refine Ev.bind (ev_some _) ?_
     by_cases ho : okb (s.data.toList.getD i 0) = true
     ·rw [ho, Bool.true_and]
      refine ev_pos ho ?_
      rw [w64 (by omega) (by omega)]
      exact ih (i + 1) (by omega) (by omega)
     ·rw [eq_false_of_ne_true ho, Bool.false_and, if_neg (by simp)]
      exact ev_neg ho (ev_some _)
    ·refine ev_neg (by omega) ?_
     rw [List.drop_eq_nil_of_le (by rw [size8]; omega)]
     exact ev_some _
  have := key s.size 0 (by omega) (by omega)
  simpa using this
def chkL : List ByteArray → Int
 | [] => 0
 | s :: t => if cv s = 0 then chkL t else cv s
/-- What checkTexts answers. -/
def chkT (l : List ByteArray) : Int := if l.length > 2000 then 2 else chkL l
def OkT (l : List ByteArray) : Prop := l.length ≤ 2000 ∧ ∀ s ∈ l, cv s = 0
theorem chkL_ok : ∀ l : List ByteArray, chkL l = 0 ↔ ∀ s ∈ l, cv s = 0
 | [] => by simp [chkL]
 | s :: t => by
  rw [chkL]
  by_cases h : cv s = 0
  ·rw [if_pos h, chkL_ok t]; simp [h]
  ·rw [if_neg h]; simp [h]
theorem chkT_ok {l : List ByteArray} : chkT l = 0 ↔ OkT l := by
 unfold chkT OkT
 by_cases h : l.length > 2000
 ·rw [if_pos h]
  exact ⟨fun h' => absurd h' (by decide), fun h' => by omega⟩
 ·rw [if_neg h, chkL_ok]
  exact ⟨fun h' => ⟨by omega, h'⟩, fun h' => h'.2⟩
theorem rdTe (l : List ByteArray) (i : Nat) : rdOf ByteArray.empty l (i : Int) = l.getD i ByteArray.empty := by simp [rdOf]
theorem checkT_ev (l : List ByteArray) : Ev (fun k => e_checkTexts.f k l) (chkT l) := by
 unfold e_checkTexts.f chkT
 by_cases h : l.length > 2000
 ·rw [if_pos h]
  exact ev_pos (by omega) (ev_some _)
 ·rw [if_neg h]
  refine ev_neg (by omega) ?_
  have key : ∀ d i : Nat, i ≤ l.length → l.length - i ≤ d → Ev (fun k => e_checkTexts.l0 k l (l.length : Int) (i : Int)) (chkL (l.drop i)) := by
   intro d
   induction d with
   | zero =>
    intro i hi hd
    refine Ev.step (fun k => by rw [e_checkTexts.l0]) (ev_neg (by omega) ?_)
    rw [List.drop_eq_nil_of_le (by omega)]
    exact ev_some _
   | succ d ih =>
    intro i hi hd
    refine Ev.step (fun k => by rw [e_checkTexts.l0]) ?_
    by_cases hlt : i < l.length
    ·refine ev_pos (by omega) (ev_pos (by omega) (ev_pos (by omega) ?_))
     rw [rdTe, getD_drop_head (d := ByteArray.empty) hlt, chkL]
     refine Ev.bind (show Ev (fun k => kit_Text.f (l.getD i ByteArray.empty)) (3, 0, l.getD i ByteArray.empty) from ev_some _) (Ev.bind (cv_ev _) ?_)
     by_cases h0 : cv (l.getD i ByteArray.empty) = 0
     ·rw [show (if cv (l.getD i ByteArray.empty) = 0 then chkL (l.drop (i + 1)) else cv (l.getD i ByteArray.empty)) = chkL (l.drop (i + 1)) from if_pos h0]
      refine ev_pos h0 ?_
      rw [w64 (by omega) (by omega)]
      exact ih (i + 1) (by omega) (by omega)
     ·rw [show (if cv (l.getD i ByteArray.empty) = 0 then chkL (l.drop (i + 1)) else cv (l.getD i ByteArray.empty)) = cv (l.getD i ByteArray.empty) from if_neg h0]
      exact ev_neg h0 (ev_some _)
    ·refine ev_neg (by omega) ?_
     rw [List.drop_eq_nil_of_le (by omega)]
     exact ev_some _
  have := key l.length 0 (by omega) (by omega)
  simpa using this
theorem cv_size {s : ByteArray} (h : cv s = 0) : s.size ≤ 200 := by
 unfold cv at h
 split at h
 ·exact absurd h (by decide)
 ·omega
def l8 (l : List ByteArray) : List (List UInt8) := l.map fun s => s.data.toList
def dsT (l : List ByteArray) : List (List UInt8) := Lib.compact ((l8 l).mergeSort fun x y => decide (x ≤ y))
theorem lt_of_le8 {a b : List UInt8} (h : a ≤ b) (n : a ≠ b) : a < b := by
 rcases Classical.em (a < b) with h1 | h1
 ·exact h1
 ·exact absurd (List.le_antisymm h (List.not_lt.1 h1)) n
theorem dsT_sorted (l : List ByteArray) : (dsT l).Pairwise (· < ·) ∧ ∀ x, x ∈ dsT l ↔ x ∈ l8 l := by
 have h := List.pairwise_mergeSort (le := fun x y : List UInt8 => decide (x ≤ y)) (by intro a b c h1 h2; rw [decide_eq_true_eq] at *; exact List.le_trans h1 h2) (by intro a b; rw [Bool.or_eq_true, decide_eq_true_eq, decide_eq_true_eq]; exact List.le_total a b) (l8 l)
 obtain ⟨h1, h2⟩ := compact_sorted (fun a b : List UInt8 => a ≤ b) (fun a b c => List.le_trans) (fun a b => List.le_antisymm) List.le_refl _ (h.imp (fun h => by simpa using h))
 refine ⟨h1.imp (fun ⟨a, b⟩ => lt_of_le8 a b), fun x => ?_⟩
 unfold dsT
 rw [h2, List.mem_mergeSort]
theorem dsT_len (l : List ByteArray) : (dsT l).length ≤ l.length := by
 have h := compact_length_le ((l8 l).mergeSort fun x y => decide (x ≤ y))
 rw [List.length_mergeSort] at h
 unfold dsT
 simpa [l8] using h
theorem dsT_ne {l : List ByteArray} (h : l ≠ []) : 0 < (dsT l).length := by
 cases l with
 | nil => exact absurd rfl h
 | cons a l => exact List.length_pos_of_mem (((dsT_sorted (a :: l)).2 a.data.toList).2 (by simp [l8]))
theorem dsT_size {l : List ByteArray} (h : OkT l) : ∀ x ∈ dsT l, x.length ≤ 200 := by
 intro x hx
 obtain ⟨s, hs, rfl⟩ := List.mem_map.1 (((dsT_sorted l).2 x).1 hx)
 rw [size8]
 exact cv_size (h.2 s hs)
def plT (d : List (List UInt8)) (v : List UInt8) : Nat := d.idxOf v
theorem plT_lt {d : List (List UInt8)} {v : List UInt8} (h : v ∈ d) : plT d v < d.length := List.idxOf_lt_length_of_mem h
theorem plT_get {d : List (List UInt8)} {v : List UInt8} (h : v ∈ d) : d.getD (plT d v) [] = v := by
 have := List.getElem_idxOf (plT_lt h)
 simp [List.getD, plT_lt h]
 exact this
theorem plT_iff {d : List (List UInt8)} (hs : d.Pairwise (· < ·)) {v : List UInt8} (h : v ∈ d) {j : Nat} (hj : j < d.length) : d.getD j [] < v ↔ j < plT d v := by
 have hg := plT_get h
 have hl := plT_lt h
 have mono : ∀ i j, i < j → j < d.length → d.getD i [] < d.getD j [] := fun i j hij hj => by
  have := List.pairwise_iff_getElem.1 hs i j (by omega) hj hij
  simpa [List.getD, hj, show i < d.length by omega] using this
 constructor
 ·intro hlt
  rcases Nat.lt_trichotomy j (plT d v) with h1 | h1 | h1
  ·exact h1
  ·subst h1; rw [hg] at hlt; exact absurd hlt (List.lt_irrefl v)
  ·have := mono _ _ h1 hj; rw [hg] at this; exact absurd hlt (List.lt_asymm this)
 ·intro h1
  have := mono _ _ h1 hl
  rwa [hg] at this
theorem lessT (a b : ByteArray) : cmp_Less_string.f a b = some (decide (a.data.toList < b.data.toList)) := by
 rw [← bless]
 simp [cmp_Less_string.f, cmp_isNaN_string.f]
theorem rdTm (d : List (List UInt8)) (i : Nat) : rdOf ByteArray.empty (d.map mk8) (i : Int) = mk8 (d.getD i []) := by
 rw [rdTe, List.getD, List.getD, List.getElem?_map]
 cases d[i]? with
 | none => rfl
 | some x => rfl
theorem searchT {d : List (List UInt8)} (hs : d.Pairwise (· < ·)) (hd : d.length ≤ 100000) {v : ByteArray} (h : v.data.toList ∈ d) : Ev (fun k => s_BinarySearcht.f k (d.map mk8) v) ((plT d v.data.toList : Int), true) := by
 have hl := plT_lt h
 have hlen : (d.map mk8).length = d.length := by simp
 have fin : ∀ i j : Nat, i = plT d v.data.toList → ¬ i < j → Ev (fun k => s_BinarySearcht.l0 k (d.map mk8) v (d.length : Int) (i : Int) (j : Int)) ((plT d v.data.toList : Int), true) := by
  intro i j hi hij
  refine Ev.step (fun k => by rw [s_BinarySearcht.l0]) (ev_neg (by omega) (ev_pos (by omega) (ev_pos (by omega) (ev_pos (by omega) (ev_pos ?_ ?_)))))
  ·rw [rdTm, hi, plT_get h, mk8_of]
  ·rw [hi]
   exact ev_some _
 have key : ∀ n (i j : Nat), i ≤ plT d v.data.toList → plT d v.data.toList ≤ j → j ≤ d.length → j - i ≤ n → Ev (fun k => s_BinarySearcht.l0 k (d.map mk8) v (d.length : Int) (i : Int) (j : Int)) ((plT d v.data.toList : Int), true) := by
  intro n
  induction n with
  | zero => intro i j hi hj hjl hn; exact fin i j (by omega) (by omega)
  | succ n ih =>
   intro i j hi hj hjl hn
   by_cases hij : i < j
   ·have em : wrap64 (IntKind.u64.wrap (wrap64 ((i : Int) + (j : Int))) / 2) = (((i + j) / 2 : Nat) : Int) := by
     rw [w64 (n := (i : Int) + (j : Int)) (by omega) (by omega), u64w, w64 (by omega) (by omega)]
     omega
    refine Ev.step (fun k => by rw [s_BinarySearcht.l0]) ?_
    rw [em, rdTm, lessT, mk8_data]
    refine ev_pos (by omega) (ev_pos (by omega) (ev_pos (by omega) (Ev.bind (ev_some _) ?_)))
    by_cases hlt : d.getD ((i + j) / 2) [] < v.data.toList
    ·have := (plT_iff hs h (by omega)).1 hlt
     refine ev_pos (by simpa using hlt) ?_
     rw [w64 (by omega) (by omega)]
     exact ih ((i + j) / 2 + 1) j (by omega) hj hjl (by omega)
    ·have hnl : ¬ (i + j) / 2 < plT d v.data.toList := fun h' => hlt ((plT_iff hs h (by omega)).2 h')
     refine ev_neg (by simpa using hlt) ?_
     exact ih i ((i + j) / 2) hi (by omega) (by omega) (by omega)
   ·exact fin i j (by omega) hij
 unfold s_BinarySearcht.f
 rw [hlen]
 exact key _ 0 d.length (by omega) (by omega) (Nat.le_refl _) (Nat.le_refl _)
def plsT (l : List ByteArray) : List Int := l.map fun s => (plT (dsT l) s.data.toList : Int)
theorem plsT_len (l : List ByteArray) : (plsT l).length = l.length := by simp [plsT]
theorem plsT_range {l : List ByteArray} : ∀ x ∈ plsT l, 0 ≤ x ∧ x < ((dsT l).length : Int) := by
 intro x hx
 obtain ⟨s, hs, rfl⟩ := List.mem_map.1 hx
 have := plT_lt (((dsT_sorted l).2 s.data.toList).2 (List.mem_map.2 ⟨s, hs, rfl⟩))
 omega
def comL : List UInt8 → List UInt8 → Nat
 | x :: a, y :: b => if x = y then comL a b + 1 else 0
 | [], _ => 0
 | _ :: _, [] => 0
theorem comL_le : ∀ a b : List UInt8, comL a b ≤ a.length ∧ comL a b ≤ b.length
 | [], b => by simp [comL]
 | _ :: _, [] => by simp [comL]
 | x :: a, y :: b => by
  have := comL_le a b
  rw [comL]
  split <;> simp <;> omega
theorem comL_take : ∀ a b : List UInt8, a.take (comL a b) = b.take (comL a b)
 | [], b => by simp [comL]
 | _ :: _, [] => by simp [comL]
 | x :: a, y :: b => by
  rw [comL]
  split
  ·rename_i h
   rw [List.take_succ_cons, List.take_succ_cons, comL_take a b, h]
  ·simp
theorem com_ev {a b : ByteArray} (ha : a.size ≤ 100000) : Ev (fun k => e_common.f k a b) (comL a.data.toList b.data.toList : Int) := by
 have key : ∀ n i : Nat, a.size - i ≤ n → i ≤ a.size → i ≤ b.size → Ev (fun k => e_common.l0 k a b (i : Int)) ((i + comL (a.data.toList.drop i) (b.data.toList.drop i) : Nat) : Int) := by
  intro n
  induction n with
  | zero =>
   intro i hn hi hj
   refine Ev.step (fun k => by rw [e_common.l0]) (ev_neg (by omega) ?_)
   rw [List.drop_eq_nil_of_le (show a.data.toList.length ≤ i by rw [size8]; omega)]
   exact ev_some _
  | succ n ih =>
   intro i hn hi hj
   refine Ev.step (fun k => by rw [e_common.l0]) ?_
   by_cases h1 : i < a.size
   ·refine ev_pos (by omega) ?_
    by_cases h2 : i < b.size
    ·have l1 : i < a.data.toList.length := by rw [size8]; exact h1
     have l2 : i < b.data.toList.length := by rw [size8]; exact h2
     refine ev_pos (by omega) (ev_pos (by omega) ?_)
     rw [btD h1, btD h2, getD_drop_head (d := 0) l1, getD_drop_head (d := 0) l2, comL]
     by_cases he : a.data.toList.getD i 0 = b.data.toList.getD i 0
     ·rw [if_pos he]
      refine ev_pos (by rw [he]) ?_
      rw [w64 (by omega) (by omega)]
      exact ev_eq (ih (i + 1) (by omega) (by omega) (by omega)) (by omega)
     ·rw [if_neg he]
      refine ev_neg (fun h => he (UInt8.toNat_inj.1 (by omega))) (ev_some _)
    ·refine ev_neg (by omega) ?_
     rw [List.drop_eq_nil_of_le (show b.data.toList.length ≤ i by rw [size8]; omega)]
     exact ev_eq (ev_some _) (by cases a.data.toList.drop i <;> simp [comL])
   ·refine ev_neg (by omega) ?_
    rw [List.drop_eq_nil_of_le (show a.data.toList.length ≤ i by rw [size8]; omega)]
    exact ev_some _
 have := key a.size 0 (by omega) (by omega) (by omega)
 unfold e_common.f
 simpa using this
theorem ext_drop (l : List UInt8) (i : Nat) (h : i ≤ l.length) : (mk8 l).extract i l.length = mk8 (l.drop i) := by
 refine ext8 ?_
 rw [mk8_data]
 simp [mk8, List.take_of_length_le]
theorem ext_take (l : List UInt8) (i : Nat) : (mk8 l).extract 0 i = mk8 (l.take i) := by
 refine ext8 ?_
 rw [mk8_data]
 simp [mk8]
def txs (l : List ByteArray) : List Int := l.flatMap fun s => cnt s.size ++ bytesOf s
def preT : List UInt8 → List (List UInt8) → List Int
 | _, [] => []
 | b, s :: t => cnt (comL b s) ++ cnt (s.length - comL b s) ++ n8 (s.drop (comL b s)) ++ preT s t
def dicT (l : List ByteArray) : List Int := cnt (dsT l).length ++ preT [] (dsT l) ++ pb (allbits (plsT l) (Lib.bitLen ((dsT l).length - 1)))
def encT (c : Nat) (l : List ByteArray) : List Int := (c : Int) :: cnt l.length ++ (if l = [] then [] else if c = 1 then txs l else dicT l)
theorem cl10 {n : Nat} (h : n ≤ 100000) : (cnt n).length ≤ 10 := cnt_len10 (by omega)
theorem u64n {n : Nat} (h : n ≤ 100000) : IntKind.u64.wrap (n : Int) = (n : Int) := by rw [u64w]; omega
theorem t_l0 {l : List ByteArray} (hn : l.length ≤ 2000) (hs : ∀ s ∈ l, s.size ≤ 200) (d : Nat) : ∀ (i : Nat) (out : List Int), i ≤ l.length → l.length - i ≤ d → out.length + 210 * (l.length - i) ≤ 1000000 →
 Ev (fun k => e_encodeTexts.l0 k out l (l.length : Int) (i : Int)) (out ++ txs (l.drop i)) := by
 induction d with
 | zero =>
  intro i out hi hd ho
  refine Ev.step (fun k => by rw [e_encodeTexts.l0]) (ev_neg (by omega) ?_)
  rw [List.drop_eq_nil_of_le (by omega)]
  exact ev_eq (ev_some _) (by simp [txs])
 | succ d ih =>
  intro i out hi hd ho
  refine Ev.step (fun k => by rw [e_encodeTexts.l0]) ?_
  by_cases hlt : i < l.length
  ·have hm : l.getD i ByteArray.empty ∈ l := by
    simp only [List.getD, List.getElem?_eq_getElem hlt, Option.getD_some]
    exact List.getElem_mem hlt
   have hz := hs _ hm
   have hc := cl10 (n := (l.getD i ByteArray.empty).size) (by omega)
   have hb := bytesOf_length (l.getD i ByteArray.empty)
   rw [rdTe, u64n (n := (l.getD i ByteArray.empty).size) (by omega)]
   refine ev_pos (by omega) (ev_pos (by omega) (ev_pos (by omega) (Ev.bind (count_ev (n := (l.getD i ByteArray.empty).size) (by omega) (by omega)) ?_)))
   refine ev_pos (by rw [List.length_append]; omega) ?_
   rw [w64 (by omega) (by omega)]
   have := ih (i + 1) (out ++ cnt (l.getD i ByteArray.empty).size ++ bytesOf (l.getD i ByteArray.empty)) (by omega) (by omega) (by rw [List.length_append, List.length_append]; omega)
   refine ev_eq this ?_
   rw [getD_drop_head (d := ByteArray.empty) hlt]
   simp [txs, List.append_assoc]
  ·refine ev_neg (by omega) ?_
   rw [List.drop_eq_nil_of_le (by omega)]
   exact ev_eq (ev_some _) (by simp [txs])
theorem preT_len : ∀ (b : List UInt8) (D : List (List UInt8)), (∀ x ∈ D, x.length ≤ 200) → (preT b D).length ≤ 220 * D.length
 | b, [], h => by simp [preT]
 | b, s :: t, h => by
  have hs := h s (List.mem_cons_self ..)
  have hc := comL_le b s
  have h1 := cl10 (n := comL b s) (by omega)
  have h2 := cl10 (n := s.length - comL b s) (by omega)
  have ih := preT_len s t (fun x hx => h x (List.mem_cons_of_mem _ hx))
  rw [preT]
  simp only [List.length_append, n8_len, List.length_drop, List.length_cons]
  omega
theorem t_l1 {l : List ByteArray} {D : List (List UInt8)} (hD : D.length ≤ 2000) (hs : ∀ x ∈ D, x.length ≤ 200) (r : List Int) (d : Nat) : ∀ (i : Nat) (out : List Int) (b : List UInt8), b.length ≤ 200 → i ≤ D.length → D.length - i ≤ d → out.length + 220 * (D.length - i) ≤ 1000000 →
 Ev (fun k => e_encodeTexts.l2 k (out ++ preT b (D.drop i)) (D.map mk8) [] l (l.length : Int) 0) r →
 Ev (fun k => e_encodeTexts.l1 k l out (D.map mk8) (mk8 b) (D.length : Int) (i : Int)) r := by
 have hlen : (D.map mk8).length = D.length := by simp
 induction d with
 | zero =>
  intro i out b hb hi hd ho h
  refine Ev.step (fun k => by rw [e_encodeTexts.l1]) (ev_neg (by omega) ?_)
  rw [List.drop_eq_nil_of_le (by omega)] at h
  simpa [preT] using h
 | succ d ih =>
  intro i out b hb hi hd ho h
  refine Ev.step (fun k => by rw [e_encodeTexts.l1]) ?_
  by_cases hlt : i < D.length
  ·have hm : D.getD i [] ∈ D := by
    simp only [List.getD, List.getElem?_eq_getElem hlt, Option.getD_some]
    exact List.getElem_mem hlt
   have hz := hs _ hm
   rw [getD_drop_head (d := ([] : List UInt8)) hlt, preT] at h
   rw [rdTm]
   generalize D.getD i [] = s at hz h
   have hc := comL_le b s
   have h1 := cl10 (n := comL b s) (by omega)
   have h2 := cl10 (n := s.length - comL b s) (by omega)
   have hcom := com_ev (a := mk8 b) (b := mk8 s) (by rw [mk8_size]; omega)
   rw [mk8_data, mk8_data] at hcom
   refine ev_pos (by omega) (ev_pos (by omega) (ev_pos (by omega) (Ev.bind hcom ?_)))
   rw [mk8_size, u64n (n := comL b s) (by omega), w64 (n := (s.length : Int) - (comL b s : Int)) (by omega) (by omega), show (s.length : Int) - (comL b s : Int) = ((s.length - comL b s : Nat) : Int) by omega, u64n (n := s.length - comL b s) (by omega)]
   refine Ev.bind (count_ev (n := comL b s) (by omega) (by omega)) (Ev.bind (count_ev (n := s.length - comL b s) (by omega) (by rw [List.length_append]; omega)) ?_)
   rw [Int.toNat_natCast, ext_drop s _ hc.2, mk8_size, List.length_drop, n8_of, mk8_data, w64 (by omega) (by omega)]
   refine ev_pos (by omega) (ev_pos (by omega) (ev_pos (by rw [List.length_append, List.length_append]; omega) ?_))
   refine ih (i + 1) (out ++ cnt (comL b s) ++ cnt (s.length - comL b s) ++ n8 (s.drop (comL b s))) s hz (by omega) (by omega) (by simp only [List.length_append, n8_len, List.length_drop]; omega) ?_
   simpa [List.append_assoc] using h
  ·refine ev_neg (by omega) ?_
   rw [List.drop_eq_nil_of_le (by omega)] at h
   simpa [preT] using h
theorem t_l2 {l : List ByteArray} (hn : l.length ≤ 2000) (hne : l ≠ []) {out : List Int} (ho : out.length ≤ 1000000) :
 Ev (fun k => e_encodeTexts.l2 k out ((dsT l).map mk8) [] l (l.length : Int) 0) (out ++ pb (allbits (plsT l) (Lib.bitLen ((dsT l).length - 1)))) := by
 have hd := dsT_len l
 have hp := dsT_ne hne
 have hs := dsT_sorted l
 have hlen : ((dsT l).map mk8).length = (dsT l).length := by simp
 have hfin : ∀ i : Nat, ¬ i < l.length → Ev (fun k => e_encodeTexts.l2 k out ((dsT l).map mk8) (plsT l) l (l.length : Int) (i : Int)) (out ++ pb (allbits (plsT l) (Lib.bitLen ((dsT l).length - 1)))) := by
  intro i hi
  refine Ev.step (fun k => by rw [e_encodeTexts.l2]) (ev_neg (by omega) ?_)
  rw [hlen, w64 (n := ((dsT l).length : Int) - 1) (by omega) (by omega), width_ev (by omega) (by omega), show (((dsT l).length : Int) - 1).toNat = (dsT l).length - 1 by omega]
  have hw := bitLen64 (x := (dsT l).length - 1) (by omega)
  exact Ev.bind (ev_some _) (Ev.bind (packed_ev (base := out) (l := plsT l) (by omega) (by rw [plsT_len]; exact hn) hw (fun v hv => by have := plsT_range v hv; omega)) (ev_some _))
 have key : ∀ n (i : Nat), i ≤ l.length → l.length - i ≤ n → Ev (fun k => e_encodeTexts.l2 k out ((dsT l).map mk8) ((l.take i).map fun s => (plT (dsT l) s.data.toList : Int)) l (l.length : Int) (i : Int)) (out ++ pb (allbits (plsT l) (Lib.bitLen ((dsT l).length - 1)))) := by
  intro n
  induction n with
  | zero =>
   intro i hi hn'
   rw [List.take_of_length_le (by omega)]
   exact hfin i (by omega)
  | succ n ih =>
   intro i hi hn'
   by_cases hlt : i < l.length
   ·have hm : l.getD i ByteArray.empty ∈ l := by
     simp only [List.getD, List.getElem?_eq_getElem hlt, Option.getD_some]
     exact List.getElem_mem hlt
    refine Ev.step (fun k => by rw [e_encodeTexts.l2]) (ev_pos (by omega) (ev_pos (by omega) (ev_pos (by omega) ?_)))
    rw [rdTe]
    refine Ev.bind (searchT hs.1 (by omega) ((hs.2 _).2 (List.mem_map.2 ⟨_, hm, rfl⟩))) (ev_pos (by simp; omega) ?_)
    rw [w64 (by omega) (by omega)]
    have := ih (i + 1) (by omega) (by omega)
    rw [List.take_add_one, List.map_append] at this
    simpa [List.getD, hlt] using this
   ·rw [List.take_of_length_le (by omega)]
    exact hfin i hlt
 exact key _ 0 (by omega) (Nat.le_refl _)
theorem encodeT_ev {c : Nat} (hc : c = 1 ∨ c = 3) {l : List ByteArray} (h : OkT l) : Ev (fun k => e_encodeTexts.f k (c : Int) l) (encT c l) := by
 have hn := h.1
 have hsz : ∀ s ∈ l, s.size ≤ 200 := fun s hs => cv_size (h.2 s hs)
 have hcl := cl10 (n := l.length) (by omega)
 unfold e_encodeTexts.f
 rw [show (c : Int) % 256 = (c : Int) by omega, u64n (n := l.length) (by omega)]
 refine Ev.bind (count_ev (n := l.length) (l := [(c : Int)]) (by omega) (by simp)) ?_
 by_cases hz : l = []
 ·refine ev_pos (by rw [hz]; rfl) (ev_eq (ev_some _) ?_)
  rw [hz]; simp [encT]
 ·have hp := List.length_pos_iff.2 hz
  refine ev_neg (by omega) ?_
  rcases hc with rfl | rfl
  ·refine ev_pos rfl ?_
   have := t_l0 hn hsz _ 0 ([((1 : Nat) : Int)] ++ cnt l.length) (by omega) (Nat.le_refl _) (by simp; omega)
   refine ev_eq this ?_
   simp [encT, hz]
  ·refine ev_neg (by omega) ?_
   have hd := dsT_len l
   have hD := dsT_size h
   have hdl := cl10 (n := (dsT l).length) (by omega)
   unfold s_Clonet.f s_Sortt.f s_Compactt.f
   rw [if_pos (show l.length * 16 ≤ 140737488355328 by omega)]
   refine Ev.bind (ev_some _) ?_
   rw [if_pos (show l.length < 4611686018427387904 by omega)]
   refine Ev.bind (ev_some _) (Ev.bind (ev_some _) ?_)
   have e : (List.map (fun l => (⟨l.toArray⟩ : ByteArray)) (Lib.compact (List.map (fun s => s.data.toList) (List.map (fun l => (⟨l.toArray⟩ : ByteArray)) ((List.map (fun s => s.data.toList) l).mergeSort fun x y => decide (x ≤ y)))))) = (dsT l).map mk8 := by
    unfold dsT l8
    rw [List.map_map]
    have hid : ((fun s : ByteArray => s.data.toList) ∘ fun l => (⟨l.toArray⟩ : ByteArray)) = id := by
     funext x
     simp
    rw [hid, List.map_id]
    rfl
   rw [e]
   have hlen : ((dsT l).map mk8).length = (dsT l).length := by simp
   rw [hlen, u64n (n := (dsT l).length) (by omega)]
   refine Ev.bind (count_ev (n := (dsT l).length) (by omega) (by simp; omega)) ?_
   have hpl := preT_len [] (dsT l) hD
   have := t_l1 (l := l) (D := dsT l) (by omega) hD (encT 3 l) _ 0 ([((3 : Nat) : Int)] ++ cnt l.length ++ cnt (dsT l).length) [] (by simp) (by omega) (Nat.le_refl _) (by simp; omega) ?_
   ·exact this
   ·refine ev_eq (t_l2 hn hz (by simp; omega)) ?_
    simp [encT, hz, dicT, List.append_assoc]
theorem txs_len : ∀ (l : List ByteArray), (∀ s ∈ l, s.size ≤ 200) → (txs l).length ≤ 210 * l.length
 | [], h => by simp [txs]
 | s :: t, h => by
  have hs := h s (List.mem_cons_self ..)
  have hc := cl10 (n := s.size) (by omega)
  have ih := txs_len t (fun x hx => h x (List.mem_cons_of_mem _ hx))
  have e : txs (s :: t) = cnt s.size ++ bytesOf s ++ txs t := by simp [txs, List.append_assoc]
  rw [e, List.length_append, List.length_append, bytesOf_length, List.length_cons]
  omega
theorem bitLen11' {n : Nat} (h : n ≤ 2000) : Lib.bitLen (n - 1) ≤ 11 := Lib.bitLen_le _ 11 (by omega) (by omega)
theorem bitLen_lt' (x : Nat) (h : x < 18446744073709551616) : x < 2 ^ Lib.bitLen x := by
 by_cases h0 : x = 0
 ·subst h0; exact Nat.pow_pos (by omega)
 ·exact (Lib.bitLenAux_bounds 64 x (by omega) h0).2.2
theorem encT_len {c : Nat} {l : List ByteArray} (h : OkT l) : (encT c l).length ≤ 480000 := by
 have hn := h.1
 have hcl := cl10 (n := l.length) (by omega)
 have hsz : ∀ s ∈ l, s.size ≤ 200 := fun s hs => cv_size (h.2 s hs)
 have hd := dsT_len l
 have hdl := cl10 (n := (dsT l).length) (by omega)
 have hpl := preT_len [] (dsT l) (dsT_size h)
 have h1 := txs_len l hsz
 have hb := bitLen11' (n := (dsT l).length) (by omega)
 have hm : l.length * Lib.bitLen ((dsT l).length - 1) ≤ 2000 * 11 := Nat.mul_le_mul hn hb
 have h2 : (dicT l).length ≤ 470000 := by
  unfold dicT
  simp only [List.length_append, pb_len, allbits_len, plsT_len]
  omega
 unfold encT
 rw [List.length_append, List.length_cons]
 split
 ·simp; omega
 ·split <;> omega
theorem Byt.app {a b : List Int} (ha : Byt a) (hb : Byt b) : Byt (a ++ b) := fun x hx => (List.mem_append.1 hx).elim (ha x) (hb x)
theorem preT_byt : ∀ (b : List UInt8) (D : List (List UInt8)), Byt (preT b D)
 | b, [] => by intro x hx; simp [preT] at hx
 | b, s :: t => by rw [preT]; exact Byt.app (Byt.app (Byt.app (cnt_byte _) (cnt_byte _)) (n8_byt _)) (preT_byt s t)
theorem txs_byt (l : List ByteArray) : Byt (txs l) := fun x hx => by
 obtain ⟨s, _, h⟩ := List.mem_flatMap.1 hx
 exact Byt.app (cnt_byte _) (n8_byt _) x h
theorem dicT_byt (l : List ByteArray) : Byt (dicT l) := Byt.app (Byt.app (cnt_byte _) (preT_byt _ _)) (pb_byte (allbits_bits _ _))
theorem bodT_byt (c : Nat) (l : List ByteArray) : Byt (if l = [] then [] else if c = 1 then txs l else dicT l) := by
 split
 ·intro x hx; simp at hx
 ·split
  ·exact txs_byt l
  ·exact dicT_byt l
theorem encT_byt {c : Nat} (hc : c ≤ 255) (l : List ByteArray) : Byt (encT c l) := by
 unfold encT
 refine Byt.app ?_ (bodT_byt c l)
 intro x hx
 rcases List.mem_cons.1 hx with rfl | hx
 ·omega
 ·exact cnt_byte _ x hx
abbrev AnT := List ByteArray × List Int × Bool
theorem textF (s : List Int) (bad : Bool) (n : Nat) : er_text.f s bad (n : Int) = some (if n > s.length then (mk8 [], s, true) else (strOfNums (s.take n), s.drop n, bad)) := by
 unfold er_text.f
 by_cases h : n > s.length
 ·rw [if_pos (by omega), if_pos h]
  rfl
 ·rw [if_neg (by omega), if_pos (by omega), if_pos (by omega), if_neg h, Int.toNat_natCast]
theorem strN_size (s : List Int) : (strOfNums s).size = s.length := strOfNums_size s
/-- The texts of a dictionary: an answer, whatever the bytes. -/
theorem pick_l1 {n : Int} {D : List ByteArray} (s : List Int) (bad : Bool) (hl : (D.length : Int) = n) (u : List Int) (hu : u.length ≤ 2000) (h0 : ∀ q ∈ u, 0 ≤ q) (d : Nat) : ∀ (i : Nat) (out : List ByteArray), out.length ≤ 4000 - (u.length - i) → i ≤ u.length → u.length - i ≤ d →
 (∃ r : AnT, Ev (fun k => er_dictTexts.l1 k n D out u (u.length : Int) (i : Int) s bad) r) ∧
 ((∀ q ∈ u, q < n) → Ev (fun k => er_dictTexts.l1 k n D out u (u.length : Int) (i : Int) s bad) (out ++ (u.drop i).map (rdOf ByteArray.empty D), s, bad)) := by
 have fin : ∀ (i : Nat) (out : List ByteArray), ¬ i < u.length → Ev (fun k => er_dictTexts.l1 k n D out u (u.length : Int) (i : Int) s bad) (out ++ (u.drop i).map (rdOf ByteArray.empty D), s, bad) := by
  intro i out h
  refine Ev.step (fun k => by rw [er_dictTexts.l1]) (ev_neg (by omega) ?_)
  rw [List.drop_eq_nil_of_le (by omega)]
  exact ev_eq (ev_some _) (by simp)
 induction d with
 | zero => intro i out ho hi hd; exact ⟨⟨_, fin i out (by omega)⟩, fun _ => fin i out (by omega)⟩
 | succ d ih =>
  intro i out ho hi hd
  by_cases hlt : i < u.length
  ·have hm := mem_getD hlt
   have hq0 := h0 _ hm
   obtain ⟨⟨r, hr⟩, h2⟩ := ih (i + 1) (out ++ [rdOf ByteArray.empty D (u.getD i 0)]) (by simp; omega) (by omega) (by omega)
   have head : ∀ r : AnT, u.getD i 0 < n → Ev (fun k => er_dictTexts.l1 k n D (out ++ [rdOf ByteArray.empty D (u.getD i 0)]) u (u.length : Int) ((i + 1 : Nat) : Int) s bad) r → Ev (fun k => er_dictTexts.l1 k n D out u (u.length : Int) (i : Int) s bad) r := by
    intro r hq h
    refine Ev.step (fun k => by rw [er_dictTexts.l1]) ?_
    rw [rdD, w64 (n := (i : Int) + 1) (by omega) (by omega)]
    exact ev_pos (by omega) (ev_pos (by omega) (ev_pos (by omega) (ev_neg (by omega) (ev_pos (by omega) (ev_pos (by omega) (ev_pos (by omega) h))))))
   constructor
   ·by_cases hq : u.getD i 0 < n
    ·exact ⟨r, head r hq hr⟩
    ·refine ⟨([], s, true), Ev.step (fun k => by rw [er_dictTexts.l1]) ?_⟩
     rw [rdD]
     exact ev_pos (by omega) (ev_pos (by omega) (ev_pos (by omega) (ev_pos (by omega) (ev_some _))))
   ·intro hall
    have := head _ (hall _ hm) (h2 hall)
    rw [getD_drop_head (d := 0) hlt, List.map_cons]
    rw [List.append_assoc] at this
    exact this
  ·exact ⟨⟨_, fin i out hlt⟩, fun _ => fin i out hlt⟩
theorem j2_bad (many n : Int) (D : List ByteArray) (s : List Int) (bad : Bool) : Ev (fun k => er_dictTexts.j2 k many n D true s bad) ([], s, true) :=
 Ev.step (fun k => by rw [er_dictTexts.j2]) (ev_pos rfl (ev_some _))
theorem j2_ok {many n : Nat} (hm : many ≤ 2000) (h1 : 1 ≤ n) (hn : n ≤ 2000) {D : List ByteArray} {s : List Int} (hs : Byt s) (hl : D.length = n) (bad : Bool) :
 (∃ r : AnT, Ev (fun k => er_dictTexts.j2 k (many : Int) (n : Int) D false s bad) r) ∧
 (s.length = (many * Lib.bitLen (n - 1) + 7) / 8 → (∀ q ∈ ups s many (Lib.bitLen (n - 1)), q < (n : Int)) → Ev (fun k => er_dictTexts.j2 k (many : Int) (n : Int) D false s bad) ((ups s many (Lib.bitLen (n - 1))).map (rdOf ByteArray.empty D), [], bad)) := by
 have hw := bitLen11' hn
 have e1 : wrap64 ((n : Int) - 1) = (n : Int) - 1 := w64 (by omega) (by omega)
 have e2 : ((n : Int) - 1).toNat = n - 1 := by omega
 have hpk := pk_ev hs bad (m := many) (w := Lib.bitLen (n - 1)) hm (by omega)
 have head : ∀ (a : List Int × List Int × Bool) (r : AnT), Ev (fun k => er_packed.f k s bad (many : Int) ((Lib.bitLen (n - 1) : Nat) : Int)) a → Ev (fun k => er_dictTexts.l1 k (n : Int) D [] a.1 (a.1.length : Int) ((0 : Nat) : Int) a.2.1 a.2.2) r → Ev (fun k => er_dictTexts.j2 k (many : Int) (n : Int) D false s bad) r := by
  intro a r ha h
  refine Ev.step (fun k => by rw [er_dictTexts.j2]) (ev_neg (by simp) ?_)
  rw [e1, width_ev (by omega) (by omega), e2]
  exact Ev.bind (ev_some _) (Ev.bind ha h)
 by_cases hlen : s.length = (many * Lib.bitLen (n - 1) + 7) / 8
 ·rw [if_pos hlen] at hpk
  have hul := ups_len s many (Lib.bitLen (n - 1))
  obtain ⟨⟨r, hr⟩, h2⟩ := pick_l1 (n := (n : Int)) (D := D) [] bad (by omega) (ups s many (Lib.bitLen (n - 1))) (by omega) (fun q hq => (ups_range q hq).1) _ 0 [] (by simp <;> omega) (by omega) (Nat.le_refl _)
  refine ⟨⟨r, head _ r hpk hr⟩, fun _ hall => ?_⟩
  have := head _ _ hpk (h2 hall)
  simpa using this
 ·rw [if_neg hlen] at hpk
  obtain ⟨⟨r, hr⟩, _⟩ := pick_l1 (n := (n : Int)) (D := D) s true (by omega) [] (by simp) (by simp) _ 0 [] (by simp) (by simp) (Nat.le_refl _)
  exact ⟨⟨r, head _ r hpk hr⟩, fun h => absurd h hlen⟩
theorem tail_byt {s : List Int} (h : Byt s) : Byt s.tail := by rw [← List.drop_one]; exact h.drop 1
theorem dj1_end {many n : Nat} (hm : many ≤ 2000) (hn : n ≤ 2000) {D : List ByteArray} (x7 : ByteArray) {s : List Int} (hs : Byt s) (bad : Bool) (hl : bad = true ∨ D.length = n) :
 ∃ r : AnT, Ev (fun k => er_dictTexts.j1 k (many : Int) (n : Int) D x7 false s bad) r := by
 by_cases h0 : n = 0
 ·exact ⟨_, Ev.step (fun k => by rw [er_dictTexts.j1]) (ev_neg (by simp) (ev_pos (by omega) (j2_bad _ _ _ _ _)))⟩
 ·cases bad with
  | true => exact ⟨_, Ev.step (fun k => by rw [er_dictTexts.j1]) (ev_neg (by simp) (ev_neg (by omega) (j2_bad _ _ _ _ _)))⟩
  | false =>
   obtain ⟨⟨r, hr⟩, _⟩ := j2_ok hm (n := n) (by omega) hn hs (hl.resolve_left (by simp)) false
   exact ⟨r, Ev.step (fun k => by rw [er_dictTexts.j1]) (ev_neg (by simp) (ev_neg (by omega) hr))⟩
/-- One text more. -/
theorem dl_one {many n : Int} {out : List ByteArray} {x7 : ByteArray} {s : List Int} (hs : Byt s) (h : (out.length : Int) < n) (ho : out.length ≤ 2000) (hx : x7.size ≤ 1000000) {p q : Nat} {s1 s2 : List Int} {b1 b2 : Bool}
 (h1 : ct s false = ((p : Int), s1, b1)) (h2 : ct s1 b1 = ((q : Int), s2, b2)) {r : AnT}
 (hr : ((p > x7.size ∨ q > 200) ∧ r = ([], s2, true)) ∨ (p ≤ x7.size ∧ q ≤ 200 ∧ ∃ t s3 b3, er_text.f s2 b2 (q : Int) = some (t, s3, b3) ∧ t.size ≤ 200 ∧ Ev (fun k => er_dictTexts.l0 k many n (out ++ [x7.extract 0 p ++ t]) (x7.extract 0 p ++ t) s3 b3) r)) :
 Ev (fun k => er_dictTexts.l0 k many n out x7 s false) r := by
 have hb1 : Byt s1 := by have := ct_byt (bad := false) hs; rw [h1] at this; exact this
 refine Ev.step (fun k => by rw [er_dictTexts.l0]) (ev_pos h (Ev.step (fun k => by rw [er_dictTexts.j1]) (ev_pos (show (!false) = true from rfl) (Ev.bind (ct_ev false hs) ?_))))
 rw [h1]
 refine Ev.bind (ct_ev b1 hb1) ?_
 rw [h2]
 dsimp only
 rcases hr with ⟨hb, rfl⟩ | ⟨hp, hq, t, s3, b3, ht, hz, hr⟩
 ·by_cases hp : p > x7.size
  ·exact ev_pos (by omega) (ev_some _)
  ·exact ev_neg (by omega) (ev_pos (by omega) (ev_some _))
 ·refine ev_neg (by omega) (ev_neg (by omega) (ev_pos (by omega) (ev_pos (by omega) ?_)))
  rw [ht, Int.toNat_natCast]
  refine Ev.bind (ev_some _) (ev_pos ?_ (ev_pos (by show out.length < _; omega) hr))
  have : (x7.extract 0 p).size ≤ x7.size := by rw [ByteArray.size_extract]; omega
  show (x7.extract 0 p).size + t.size ≤ _
  omega
theorem dl_total {many n : Nat} (hm : many ≤ 2000) (hn : n ≤ 2000) (d : Nat) : ∀ (out : List ByteArray) (x7 : ByteArray) (s : List Int) (bad : Bool), out.length + d = n → x7.size ≤ 200 * out.length → Byt s → ∃ r : AnT, Ev (fun k => er_dictTexts.l0 k (many : Int) (n : Int) out x7 s bad) r := by
 have stop : ∀ (out : List ByteArray) (x7 : ByteArray) (s : List Int) (bad : Bool), Byt s → (bad = true ∨ out.length = n) → ∃ r : AnT, Ev (fun k => er_dictTexts.l0 k (many : Int) (n : Int) out x7 s bad) r := by
  intro out x7 s bad hs hl
  obtain ⟨r, hr⟩ := dj1_end hm hn x7 hs bad hl
  refine ⟨r, Ev.step (fun k => by rw [er_dictTexts.l0]) ?_⟩
  by_cases h : (out.length : Int) < (n : Int)
  ·have hb : bad = true := hl.resolve_right (by omega)
   subst hb
   exact ev_pos h hr
  ·exact ev_neg h hr
 induction d with
 | zero => intro out x7 s bad hl hx hs; exact stop out x7 s bad hs (Or.inr (by omega))
 | succ d ih =>
  intro out x7 s bad hl hx hs
  cases bad with
  | true => exact stop out x7 s true hs (Or.inl rfl)
  | false =>
   have hv1 := ct_val s false
   obtain ⟨p, hp⟩ := Int.eq_ofNat_of_zero_le hv1.1
   have hv2 := ct_val (ct s false).2.1 (ct s false).2.2
   obtain ⟨q, hq⟩ := Int.eq_ofNat_of_zero_le hv2.1
   have h1 : ct s false = ((p : Int), (ct s false).2.1, (ct s false).2.2) := by rw [← hp]
   have h2 : ct (ct s false).2.1 (ct s false).2.2 = ((q : Int), (ct (ct s false).2.1 (ct s false).2.2).2.1, (ct (ct s false).2.1 (ct s false).2.2).2.2) := by rw [← hq]
   have hb2 : Byt (ct (ct s false).2.1 (ct s false).2.2).2.1 := ct_byt (ct_byt hs)
   by_cases hbad : p > x7.size ∨ q > 200
   ·exact ⟨_, dl_one hs (by omega) (by omega) (by omega) h1 h2 (Or.inl ⟨hbad, rfl⟩)⟩
   ·have hb' := not_or.1 hbad
    generalize (ct (ct s false).2.1 (ct s false).2.2).2.1 = s2 at h2 hb2
    generalize (ct (ct s false).2.1 (ct s false).2.2).2.2 = b2 at h2
    have hT : ∃ t s3 b3, er_text.f s2 b2 (q : Int) = some (t, s3, b3) ∧ t.size ≤ 200 ∧ Byt s3 := by
     rw [textF]
     by_cases hg : q > s2.length
     ·rw [if_pos hg]
      exact ⟨_, _, _, rfl, by rw [mk8_size]; simp, hb2⟩
     ·rw [if_neg hg]
      exact ⟨_, _, _, rfl, by rw [strN_size, List.length_take]; omega, hb2.drop q⟩
    obtain ⟨t, s3, b3, ht, hz, hb3⟩ := hT
    have hsz : (x7.extract 0 p ++ t).size ≤ 200 * (out ++ [x7.extract 0 p ++ t]).length := by
     rw [ByteArray.size_append, ByteArray.size_extract, List.length_append, List.length_singleton]
     omega
    obtain ⟨r, hr⟩ := ih (out ++ [x7.extract 0 p ++ t]) (x7.extract 0 p ++ t) s3 b3 (by simp; omega) hsz hb3
    exact ⟨r, dl_one hs (by omega) (by omega) (by omega) h1 h2 (Or.inr ⟨by omega, by omega, t, s3, b3, ht, hz, hr⟩)⟩
theorem mk8_app (a b : List UInt8) : mk8 a ++ mk8 b = mk8 (a ++ b) := by
 refine ext8 ?_
 rw [mk8_data]
 simp [mk8]
theorem dl_round {many n : Nat} (hn : n ≤ 2000) (h1 : 1 ≤ n) (tl : List Int) (r : AnT) : ∀ (rest pre : List (List UInt8)) (b : List UInt8), pre.length + rest.length = n → (∀ x ∈ rest, x.length ≤ 200) → b.length ≤ 200 → Byt (preT b rest ++ tl) →
 Ev (fun k => er_dictTexts.j2 k (many : Int) (n : Int) ((pre ++ rest).map mk8) false tl false) r →
 Ev (fun k => er_dictTexts.l0 k (many : Int) (n : Int) (pre.map mk8) (mk8 b) (preT b rest ++ tl) false) r
 | [], pre, b, hl, hx, hb, hby, h => by
  have hlen : (pre.map mk8).length = pre.length := by simp
  have hl' : pre.length = n := by simpa using hl
  rw [List.append_nil] at h
  rw [show preT b ([] : List (List UInt8)) = [] by simp [preT], List.nil_append]
  exact Ev.step (fun k => by rw [er_dictTexts.l0]) (ev_neg (by omega) (Ev.step (fun k => by rw [er_dictTexts.j1]) (ev_neg (by simp) (ev_neg (by omega) h))))
 | s :: t, pre, b, hl, hx, hb, hby, h => by
  have hlen : (pre.map mk8).length = pre.length := by simp
  have hl' : pre.length + (t.length + 1) = n := hl
  have hs := hx s (List.mem_cons_self ..)
  have hc := comL_le b s
  have ht := comL_take b s
  have e : preT b (s :: t) ++ tl = cnt (comL b s) ++ (cnt (s.length - comL b s) ++ (n8 (s.drop (comL b s)) ++ (preT s t ++ tl))) := by rw [preT]; simp only [List.append_assoc]
  have hb2 : Byt (preT s t ++ tl) := fun x hx => hby x (by rw [e]; exact List.mem_append_right _ (List.mem_append_right _ (List.mem_append_right _ hx)))
  have c1 := ct_cnt (n := comL b s) (cnt (s.length - comL b s) ++ (n8 (s.drop (comL b s)) ++ (preT s t ++ tl))) (by omega)
  rw [← e] at c1
  have c2 := ct_cnt (n := s.length - comL b s) (n8 (s.drop (comL b s)) ++ (preT s t ++ tl)) (by omega)
  have hnl : (n8 (s.drop (comL b s))).length = s.length - comL b s := by rw [n8_len, List.length_drop]
  have hdn : (n8 (s.drop (comL b s))).drop (s.length - comL b s) = [] := List.drop_eq_nil_of_le (by omega)
  have hT : er_text.f (n8 (s.drop (comL b s)) ++ (preT s t ++ tl)) false ((s.length - comL b s : Nat) : Int) = some (mk8 (s.drop (comL b s)), preT s t ++ tl, false) := by
   rw [textF, if_neg (by rw [List.length_append]; omega), List.take_append_of_le_length (by omega), List.take_of_length_le (by omega), str_n8]
   rw [List.drop_append_of_le_length (by omega), hdn, List.nil_append]
  have hm : (mk8 b).extract 0 (comL b s) ++ mk8 (s.drop (comL b s)) = mk8 s := by
   rw [ext_take, mk8_app, ht, List.take_append_drop]
  refine dl_one hby (by omega) (by omega) (by rw [mk8_size]; omega) c1 c2 (Or.inr ⟨by rw [mk8_size]; omega, by omega, _, _, _, hT, by rw [mk8_size, List.length_drop]; omega, ?_⟩)
  rw [hm]
  have := dl_round hn h1 tl r t (pre ++ [s]) s (by simp; omega) (fun x hx' => hx x (List.mem_cons_of_mem _ hx')) hs hb2 (by rw [List.append_assoc]; exact h)
  rw [List.map_append] at this
  exact this
theorem dT_total {many : Nat} (hm : many ≤ 2000) {s : List Int} (hs : Byt s) (bad : Bool) : ∃ r : AnT, Ev (fun k => er_dictTexts.f k s bad (many : Int)) r := by
 have hlv := lt_val s bad
 obtain ⟨n, hn⟩ := Int.eq_ofNat_of_zero_le hlv.1
 obtain ⟨r, hr⟩ := dl_total hm (n := n) (by omega) n [] (mk8 []) (lt_ s bad).2.1 (lt_ s bad).2.2 (by simp) (by rw [mk8_size]; simp) (lt_byt hs)
 refine ⟨r, ?_⟩
 unfold er_dictTexts.f
 refine Ev.bind (lt_ev bad hs) ?_
 rw [hn]
 exact hr
theorem dT_round {l : List ByteArray} (h : OkT l) (hne : l ≠ []) : Ev (fun k => er_dictTexts.f k (dicT l) false (l.length : Int)) (l, [], false) := by
 have hn := h.1
 have hs := dsT_sorted l
 have hd := dsT_len l
 have hp := dsT_ne hne
 have hD := dsT_size h
 have hby := dicT_byt l
 have e : dicT l = cnt (dsT l).length ++ (preT [] (dsT l) ++ pb (allbits (plsT l) (Lib.bitLen ((dsT l).length - 1)))) := by unfold dicT; rw [List.append_assoc]
 have hb2 : Byt (preT [] (dsT l) ++ pb (allbits (plsT l) (Lib.bitLen ((dsT l).length - 1)))) := fun x hx => hby x (by rw [e]; exact List.mem_append_right _ hx)
 have hlt := lt_cnt (n := (dsT l).length) (preT [] (dsT l) ++ pb (allbits (plsT l) (Lib.bitLen ((dsT l).length - 1)))) (by omega)
 rw [← e] at hlt
 have hbl := bitLen_lt' ((dsT l).length - 1) (by omega)
 have hplr : ∀ v ∈ plsT l, 0 ≤ v ∧ v < 2 ^ Lib.bitLen ((dsT l).length - 1) := by
  intro v hv
  have h1 := plsT_range v hv
  have h2 : (((dsT l).length - 1 : Nat) : Int) < (2 : Int) ^ Lib.bitLen ((dsT l).length - 1) := by exact_mod_cast hbl
  exact ⟨h1.1, by omega⟩
 have hups := ups_pb hplr
 rw [plsT_len] at hups
 unfold er_dictTexts.f
 refine Ev.bind (lt_ev false hby) ?_
 rw [hlt]
 have := (j2_ok (many := l.length) hn (n := (dsT l).length) (by omega) (by omega) (D := (dsT l).map mk8) (s := pb (allbits (plsT l) (Lib.bitLen ((dsT l).length - 1)))) (fun x hx => hb2 x (List.mem_append_right _ hx)) (by simp) false).2 (by rw [pb_len, allbits_len, plsT_len]) ?_
 ·rw [hups] at this
  have hmap : (plsT l).map (rdOf ByteArray.empty ((dsT l).map mk8)) = l := by
   unfold plsT
   rw [List.map_map]
   have : ∀ s ∈ l, (rdOf ByteArray.empty ((dsT l).map mk8) ∘ fun s : ByteArray => (plT (dsT l) s.data.toList : Int)) s = s := by
    intro s hs'
    simp only [Function.comp]
    rw [rdTm, plT_get ((hs.2 _).2 (List.mem_map.2 ⟨s, hs', rfl⟩)), mk8_of]
   rw [List.map_congr_left this]
   simp
  rw [hmap] at this
  have hr := dl_round (many := l.length) (n := (dsT l).length) (by omega) (by omega) (pb (allbits (plsT l) (Lib.bitLen ((dsT l).length - 1)))) (l, [], false) (dsT l) [] [] (by simp) hD (by simp) hb2 (by simpa using this)
  exact hr
 ·rw [hups]
  exact fun q hq => (plsT_range q hq).2
/-- What decodeTexts may answer. -/
def DTok (b : List Int) (r : List ByteArray × Bool) : Prop := r = ([], false) ∨ ∃ c l, (c = 1 ∨ c = 3) ∧ OkT l ∧ encT c l = b ∧ r = (l, true)
theorem j4_bad (b : List Int) (c : Int) (o : List ByteArray) (s : List Int) : Ev (fun k => e_decodeTexts.j4 k b c o s true) ([], false) :=
 Ev.step (fun k => by rw [e_decodeTexts.j4]) (ev_pos rfl (ev_some _))
theorem j4_ok {b : List Int} (hb : Byt b) {c : Nat} (hc : c = 1 ∨ c = 3) (o : List ByteArray) (s : List Int) : Ev (fun k => e_decodeTexts.j4 k b (c : Int) o s false) (if chkT o = 0 ∧ encT c o = b then (o, true) else ([], false)) := by
 refine Ev.step (fun k => by rw [e_decodeTexts.j4]) (ev_neg (by simp) (Ev.bind (checkT_ev o) ?_))
 by_cases h0 : chkT o = 0
 ·have ho := chkT_ok.1 h0
  refine ev_pos h0 (Ev.bind (encodeT_ev hc ho) ?_)
  rw [bytesEqual_eq (encT_byt (by omega) o) hb]
  refine Ev.bind (ev_some _) ?_
  by_cases he : encT c o = b
  ·rw [show (if chkT o = 0 ∧ encT c o = b then (o, true) else (([] : List ByteArray), false)) = (o, true) from if_pos ⟨h0, he⟩]
   exact ev_pos (by simpa using he) (ev_some _)
  ·rw [show (if chkT o = 0 ∧ encT c o = b then (o, true) else (([] : List ByteArray), false)) = ([], false) from if_neg (fun h => he h.2)]
   exact ev_neg (by simpa using he) (ev_some _)
 ·rw [if_neg (fun h => h0 h.1)]
  exact ev_neg h0 (ev_some _)
theorem j4_any {b : List Int} (hb : Byt b) {c : Nat} (hc : c = 1 ∨ c = 3) (o : List ByteArray) (s : List Int) (bad : Bool) : ∃ r, Ev (fun k => e_decodeTexts.j4 k b (c : Int) o s bad) r ∧ DTok b r := by
 cases bad with
 | true => exact ⟨_, j4_bad b c o s, Or.inl rfl⟩
 | false =>
  refine ⟨_, j4_ok hb hc o s, ?_⟩
  by_cases h : chkT o = 0 ∧ encT c o = b
  ·rw [if_pos h]; exact Or.inr ⟨c, o, hc, chkT_ok.1 h.1, h.2, rfl⟩
  ·rw [if_neg h]; exact Or.inl rfl
theorem pl_total {b : List Int} (hb : Byt b) {c : Nat} (hc : c = 1 ∨ c = 3) {many : Nat} (hm : many ≤ 2000) (d : Nat) : ∀ (out : List ByteArray) (s : List Int) (bad : Bool), out.length ≤ many → many - out.length ≤ d → Byt s → ∃ r, Ev (fun k => e_decodeTexts.l0 k b (c : Int) (many : Int) out s bad) r ∧ DTok b r := by
 have stop : ∀ (out : List ByteArray) (s : List Int) (bad : Bool), (bad = true ∨ ¬ (out.length : Int) < (many : Int)) → ∃ r, Ev (fun k => e_decodeTexts.l0 k b (c : Int) (many : Int) out s bad) r ∧ DTok b r := by
  intro out s bad hl
  obtain ⟨r, hr, ho⟩ := j4_any hb hc out s bad
  have hj : Ev (fun k => e_decodeTexts.j3 k b (c : Int) (many : Int) out false s bad) r := Ev.step (fun k => by rw [e_decodeTexts.j3]) (ev_neg (by simp) hr)
  refine ⟨r, Ev.step (fun k => by rw [e_decodeTexts.l0]) ?_, ho⟩
  by_cases h : (out.length : Int) < (many : Int)
  ·have hb' : bad = true := hl.resolve_right (fun h' => h' h)
   subst hb'
   exact ev_pos h hj
  ·exact ev_neg h hj
 induction d with
 | zero => intro out s bad ho hd hs; exact stop out s bad (Or.inr (by omega))
 | succ d ih =>
  intro out s bad ho hd hs
  cases bad with
  | true => exact stop out s true (Or.inl rfl)
  | false =>
   by_cases hlt : (out.length : Int) < (many : Int)
   ·have hv := ct_val s false
    obtain ⟨n, hn⟩ := Int.eq_ofNat_of_zero_le hv.1
    have hby := ct_byt (bad := false) hs
    have hT : ∃ t s3 b3, er_text.f (ct s false).2.1 (ct s false).2.2 (ct s false).1 = some (t, s3, b3) ∧ Byt s3 := by
     rw [hn, textF]
     by_cases hg : n > (ct s false).2.1.length
     ·rw [if_pos hg]; exact ⟨_, _, _, rfl, hby⟩
     ·rw [if_neg hg]; exact ⟨_, _, _, rfl, hby.drop n⟩
    obtain ⟨t, s3, b3, ht, hb3⟩ := hT
    obtain ⟨r, hr, hd'⟩ := ih (out ++ [t]) s3 b3 (by simp; omega) (by simp; omega) hb3
    refine ⟨r, Ev.step (fun k => by rw [e_decodeTexts.l0]) (ev_pos hlt (Ev.step (fun k => by rw [e_decodeTexts.j3]) (ev_pos (show (!false) = true from rfl) (Ev.bind (ct_ev false hs) ?_)))), hd'⟩
    rw [ht]
    exact Ev.bind (ev_some _) (ev_pos (show out.length < 8796093022208 by omega) hr)
   ·exact stop out s false (Or.inr hlt)
theorem pl_round {b : List Int} (r : List ByteArray × Bool) : ∀ (rest pre : List ByteArray), pre.length + rest.length ≤ 2000 → (∀ s ∈ rest, s.size ≤ 200) →
 Ev (fun k => e_decodeTexts.j4 k b 1 (pre ++ rest) [] false) r →
 Ev (fun k => e_decodeTexts.l0 k b 1 ((pre.length + rest.length : Nat) : Int) pre (txs rest) false) r
 | [], pre, hl, hs, h => by
  rw [List.append_nil] at h
  rw [show txs ([] : List ByteArray) = [] from rfl]
  exact Ev.step (fun k => by rw [e_decodeTexts.l0]) (ev_neg (by simp) (Ev.step (fun k => by rw [e_decodeTexts.j3]) (ev_neg (by simp) h)))
 | s :: t, pre, hl, hs, h => by
  have hz := hs s (List.mem_cons_self ..)
  have hl' : pre.length + (t.length + 1) ≤ 2000 := hl
  have e : txs (s :: t) = cnt s.size ++ (n8 s.data.toList ++ txs t) := by simp [txs, List.append_assoc, n8_of]
  have hby := txs_byt (s :: t)
  have c1 := ct_cnt (n := s.size) (n8 s.data.toList ++ txs t) (by omega)
  rw [← e] at c1
  have hnl : (n8 s.data.toList).length = s.size := by rw [n8_len, size8]
  have hT : er_text.f (n8 s.data.toList ++ txs t) false ((s.size : Nat) : Int) = some (s, txs t, false) := by
   rw [textF, if_neg (by rw [List.length_append]; omega), List.take_append_of_le_length (by omega), List.take_of_length_le (by omega), str_n8, mk8_of]
   rw [List.drop_append_of_le_length (by omega), List.drop_eq_nil_of_le (by omega), List.nil_append]
  have ih := pl_round r t (pre ++ [s]) (by simp; omega) (fun x hx => hs x (List.mem_cons_of_mem _ hx)) (by rw [List.append_assoc]; exact h)
  rw [List.length_append, List.length_singleton, show pre.length + 1 + t.length = pre.length + (t.length + 1) by omega] at ih
  refine Ev.step (fun k => by rw [e_decodeTexts.l0]) (ev_pos (by simp; omega) (Ev.step (fun k => by rw [e_decodeTexts.j3]) (ev_pos (show (!false) = true from rfl) (Ev.bind (ct_ev false hby) ?_))))
  rw [c1]
  dsimp only
  rw [hT]
  exact Ev.bind (ev_some _) (ev_pos (show pre.length < 8796093022208 by omega) ih)
theorem decT_total {b : List Int} (hb : Byt b) : ∃ r, Ev (fun k => e_decodeTexts.f k b) r ∧ DTok b r := by
 have ht := tail_byt hb
 have hbyte := byteB b false hb
 have hlv := lt_val b.tail (false || b.isEmpty)
 obtain ⟨many, hmany⟩ := Int.eq_ofNat_of_zero_le hlv.1
 have head : ∀ r, Ev (fun k => if b.headD 0 = 1 then (e_decodeTexts.j0 k b (b.headD 0) (lt_ b.tail (false || b.isEmpty)).1 false (lt_ b.tail (false || b.isEmpty)).2.1 (lt_ b.tail (false || b.isEmpty)).2.2) else (e_decodeTexts.j0 k b (b.headD 0) (lt_ b.tail (false || b.isEmpty)).1 (b.headD 0 != 3) (lt_ b.tail (false || b.isEmpty)).2.1 (lt_ b.tail (false || b.isEmpty)).2.2)) r → Ev (fun k => e_decodeTexts.f k b) r := by
  intro r h
  unfold e_decodeTexts.f
  rw [hbyte]
  exact Ev.bind (ev_some _) (Ev.bind (lt_ev _ ht) h)
 have j0 : ∀ c : Nat, (c = 1 ∨ c = 3) → b.headD 0 = (c : Int) → ∃ r, Ev (fun k => e_decodeTexts.j0 k b (b.headD 0) (lt_ b.tail (false || b.isEmpty)).1 false (lt_ b.tail (false || b.isEmpty)).2.1 (lt_ b.tail (false || b.isEmpty)).2.2) r ∧ DTok b r := by
  intro c hc hcc
  have hby : Byt (lt_ b.tail (false || b.isEmpty)).2.1 := lt_byt (bad := (false || b.isEmpty)) ht
  rw [hcc]
  by_cases h0 : (lt_ b.tail (false || b.isEmpty)).1 = 0
  ·obtain ⟨r, hr, ho⟩ := j4_any hb hc [] (lt_ b.tail (false || b.isEmpty)).2.1 (lt_ b.tail (false || b.isEmpty)).2.2
   exact ⟨r, Ev.step (fun k => by rw [e_decodeTexts.j0]) (ev_neg (by simp) (ev_pos h0 (Ev.step (fun k => by rw [e_decodeTexts.j1]) (ev_pos rfl hr)))), ho⟩
  ·cases hbad : (lt_ b.tail (false || b.isEmpty)).2.2 with
   | true =>
    obtain ⟨r, hr, ho⟩ := j4_any hb hc [] (lt_ b.tail (false || b.isEmpty)).2.1 true
    exact ⟨r, Ev.step (fun k => by rw [e_decodeTexts.j0]) (ev_neg (by simp) (ev_neg h0 (Ev.step (fun k => by rw [e_decodeTexts.j1]) (ev_pos rfl hr)))), ho⟩
   | false =>
    have hj1 : ∃ r, Ev (fun k => e_decodeTexts.j1 k b (c : Int) (lt_ b.tail (false || b.isEmpty)).1 [] false (lt_ b.tail (false || b.isEmpty)).2.1 false) r ∧ DTok b r := by
     rw [hmany]
     by_cases h3 : c = 3
     ·obtain ⟨v, hv⟩ := dT_total (many := many) (by omega) hby false
      obtain ⟨r, hr, ho⟩ := j4_any hb hc v.1 v.2.1 v.2.2
      exact ⟨r, Ev.step (fun k => by rw [e_decodeTexts.j1]) (ev_neg (by simp) (ev_pos (by omega) (Ev.bind hv hr))), ho⟩
     ·obtain ⟨r, hr, ho⟩ := pl_total hb hc (many := many) (by omega) many [] (lt_ b.tail (false || b.isEmpty)).2.1 false (by simp) (by simp) hby
      exact ⟨r, Ev.step (fun k => by rw [e_decodeTexts.j1]) (ev_neg (by simp) (ev_neg (by omega) hr)), ho⟩
    obtain ⟨r, hr, ho⟩ := hj1
    exact ⟨r, Ev.step (fun k => by rw [e_decodeTexts.j0]) (ev_neg (by simp) (ev_neg h0 hr)), ho⟩
 by_cases h1 : b.headD 0 = 1
 ·obtain ⟨r, hr, ho⟩ := j0 1 (Or.inl rfl) (by omega)
  exact ⟨r, head r (ev_pos h1 hr), ho⟩
 ·by_cases h3 : b.headD 0 = 3
  ·obtain ⟨r, hr, ho⟩ := j0 3 (Or.inr rfl) (by omega)
   refine ⟨r, head r (ev_neg h1 ?_), ho⟩
   rw [show (b.headD 0 != 3) = false by simpa using h3]
   exact hr
  ·refine ⟨([], false), head _ (ev_neg h1 ?_), Or.inl rfl⟩
   rw [show (b.headD 0 != 3) = true by simpa using h3]
   exact Ev.step (fun k => by rw [e_decodeTexts.j0]) (ev_pos rfl (ev_some _))
theorem decT_round {c : Nat} (hc : c = 1 ∨ c = 3) {l : List ByteArray} (h : OkT l) : Ev (fun k => e_decodeTexts.f k (encT c l)) (l, true) := by
 have hb := encT_byt (c := c) (by omega) l
 have hn := h.1
 have htl : (encT c l).tail = cnt l.length ++ (if l = [] then [] else if c = 1 then txs l else dicT l) := by simp [encT]
 have hhd : (encT c l).headD 0 = (c : Int) := by simp [encT]
 have hem : (encT c l).isEmpty = false := by simp [encT]
 have ht : Byt (cnt l.length ++ (if l = [] then [] else if c = 1 then txs l else dicT l)) := by rw [← htl]; exact tail_byt hb
 have hlt := lt_cnt (n := l.length) (if l = [] then [] else if c = 1 then txs l else dicT l) hn
 have fin : ∀ s, Ev (fun k => e_decodeTexts.j4 k (encT c l) (c : Int) l s false) (l, true) := by
  intro s
  have := j4_ok hb hc l s
  rwa [if_pos ⟨chkT_ok.2 h, rfl⟩] at this
 have j0 : Ev (fun k => e_decodeTexts.j0 k (encT c l) (c : Int) (l.length : Int) false (if l = [] then [] else if c = 1 then txs l else dicT l) false) (l, true) := by
  refine Ev.step (fun k => by rw [e_decodeTexts.j0]) (ev_neg (by simp) ?_)
  by_cases hz : l = []
  ·have hf := fin (if l = [] then [] else if c = 1 then txs l else dicT l)
   refine ev_pos (by rw [hz]; rfl) (Ev.step (fun k => by rw [e_decodeTexts.j1]) (ev_pos rfl ?_))
   rw [hz] at hf ⊢
   exact hf
  ·have hp := List.length_pos_iff.2 hz
   rw [if_neg hz]
   refine ev_neg (by omega) (Ev.step (fun k => by rw [e_decodeTexts.j1]) (ev_neg (by simp) ?_))
   rcases hc with rfl | rfl
   ·refine ev_neg (by omega) ?_
    have := pl_round (b := encT 1 l) (l, true) l [] (by simpa using hn) (fun s hs => cv_size (h.2 s hs)) (by simpa using fin [])
    simpa using this
   ·refine ev_pos rfl ?_
    rw [if_neg (by omega)]
    exact Ev.bind (dT_round h hz) (fin [])
 unfold e_decodeTexts.f
 rw [byteB _ false hb, htl, hhd, hem]
 refine Ev.bind (ev_some _) (Ev.bind (lt_ev _ ht) ?_)
 rw [show (false || false) = false from rfl, hlt]
 dsimp only
 rcases hc with rfl | rfl
 ·exact ev_pos rfl j0
 ·exact ev_neg (by omega) j0
def DecAT (b : List Int) (r : List ByteArray × Int) : Prop := (r = ([], 2) ∨ r = ([], 3)) ∨ ∃ c l, (c = 1 ∨ c = 3) ∧ OkT l ∧ encT c l = b ∧ r = (l, 0)
theorem DecodeT_total {b : List Int} (hb : Byt b) : ∃ r, Ev (fun k => e_DecodeTexts.f k b) r ∧ DecAT b r := by
 by_cases hl : b.length > 500000
 ·exact ⟨([], 2), by unfold e_DecodeTexts.f; exact ev_pos (by omega) (ev_some _), Or.inl (Or.inl rfl)⟩
 ·obtain ⟨r, hr, ho⟩ := decT_total hb
  rcases ho with rfl | ⟨c, l, hc, h, he, rfl⟩
  ·exact ⟨([], 3), by unfold e_DecodeTexts.f; exact ev_neg (by omega) (Ev.bind hr (ev_neg (by simp) (ev_some _))), Or.inl (Or.inr rfl)⟩
  ·exact ⟨(l, 0), by unfold e_DecodeTexts.f; exact ev_neg (by omega) (Ev.bind hr (ev_pos rfl (ev_some _))), Or.inr ⟨c, l, hc, h, he, rfl⟩⟩
theorem DecodeT_round {c : Nat} (hc : c = 1 ∨ c = 3) {l : List ByteArray} (h : OkT l) : Ev (fun k => e_DecodeTexts.f k (encT c l)) (l, 0) := by
 have hl := encT_len (c := c) h
 unfold e_DecodeTexts.f
 exact ev_neg (by omega) (Ev.bind (decT_round hc h) (ev_pos rfl (ev_some _)))
def encTA (c : Int) (l : List ByteArray) : List Int × Int := if c = 1 ∨ c = 3 then (if chkT l = 0 then (encT c.toNat l, 0) else ([], chkT l)) else ([], 4)
theorem EncodeT_ev (c : Int) (l : List ByteArray) : Ev (fun k => e_EncodeTexts.f k c l) (encTA c l) := by
 have j0 : (c = 1 ∨ c = 3) → Ev (fun k => e_EncodeTexts.j0 k c l false) (encTA c l) := by
  intro hc
  have e : encTA c l = (if chkT l = 0 then (encT c.toNat l, 0) else ([], chkT l)) := if_pos hc
  refine Ev.step (fun k => by rw [e_EncodeTexts.j0]) (ev_neg (by simp) (Ev.bind (checkT_ev l) ?_))
  by_cases h0 : chkT l = 0
  ·rw [if_pos h0] at e
   have hE := encodeT_ev (c := c.toNat) (by omega) (chkT_ok.1 h0)
   rw [show ((c.toNat : Nat) : Int) = c by omega] at hE
   exact ev_pos h0 (Ev.bind hE (ev_eq (ev_some _) e.symm))
  ·rw [if_neg h0] at e
   exact ev_neg h0 (ev_eq (ev_some _) e.symm)
 unfold e_EncodeTexts.f
 by_cases h1 : c = 1
 ·exact ev_pos h1 (j0 (Or.inl h1))
 ·refine ev_neg h1 ?_
  by_cases h3 : c = 3
  ·rw [show (c != 3) = false by simpa using h3]
   exact j0 (Or.inr h3)
  ·rw [show (c != 3) = true by simpa using h3]
   exact Ev.step (fun k => by rw [e_EncodeTexts.j0]) (ev_pos rfl (ev_eq (ev_some _) (if_neg (by omega)).symm))
/-- A text lies between. -/
def btw (lo hi s : ByteArray) : Bool := !(Op.bytesLess s.toList lo.toList) && !(Op.bytesLess hi.toList s.toList)
def whT (lo hi : ByteArray) (l : List ByteArray) (n : Nat) : List Int := ((List.range n).filter fun i => btw lo hi (l.getD i ByteArray.empty)).map (fun i : Nat => (i : Int))
theorem whT_succ (lo hi : ByteArray) (l : List ByteArray) (n : Nat) : whT lo hi l (n + 1) = whT lo hi l n ++ (if btw lo hi (l.getD n ByteArray.empty) = true then [(n : Int)] else []) := by
 unfold whT
 rw [List.range_succ, List.filter_append, List.map_append]
 congr 1
 by_cases h : btw lo hi (l.getD n ByteArray.empty) = true
 ·rw [if_pos h, List.filter_cons, if_pos h]; rfl
 ·rw [if_neg h, List.filter_cons, if_neg h]; rfl
theorem whT_len (lo hi : ByteArray) (l : List ByteArray) (n : Nat) : (whT lo hi l n).length ≤ n := by
 unfold whT
 rw [List.length_map]
 exact Nat.le_trans (List.length_filter_le _ _) (by simp)
theorem eqT_refl {l : List ByteArray} (hl : l.length ≤ 100000) : Ev (fun k => s_Equalt.f k l l) true := by
 have key : ∀ d i : Nat, i ≤ l.length → l.length - i ≤ d → Ev (fun k => s_Equalt.l0 k l l (l.length : Int) (i : Int)) true := by
  intro d
  induction d with
  | zero => intro i hi hd; exact Ev.step (fun k => by rw [s_Equalt.l0]) (ev_neg (by omega) (ev_some _))
  | succ d ih =>
   intro i hi hd
   refine Ev.step (fun k => by rw [s_Equalt.l0]) ?_
   by_cases hlt : i < l.length
   ·refine ev_pos (by omega) (ev_pos (by omega) (ev_pos (by omega) (ev_pos (by omega) (ev_pos rfl ?_))))
    rw [w64 (by omega) (by omega)]
    exact ih (i + 1) (by omega) (by omega)
   ·exact ev_neg (by omega) (ev_some _)
 unfold s_Equalt.f
 exact ev_pos rfl (key _ 0 (by omega) (Nat.le_refl _))
theorem byt_of_wf {l : List Int} (h : ∀ x ∈ l, (fun n : Int => (Lit.int .u8 n).wf = true) x) : Byt l := by
 intro n hn
 have a : IntKind.u8.min = 0 := by decide
 have b : IntKind.u8.max = 255 := by decide
 have := h n hn
 simp [Lit.wf] at this
 omega
theorem rcv_ev (s : ByteArray) : Ev (fun k => peristyleref1_CheckValue.f k 3 0 s) (cv s) := by
 have hw : peristyleref1_within.f 3 0 3 = some true := by simp [peristyleref1_within.f]
 unfold peristyleref1_CheckValue.f
 rw [hw]
 refine Ev.bind (ev_some _) (ev_pos rfl (ev_neg (by omega) (ev_neg (by omega) (ev_pos rfl (ev_pos rfl ?_)))))
 refine Ev.step (fun k => by rw [peristyleref1_CheckValue.j0]) (ev_neg (by simp) (ev_neg (by omega) (ev_neg (by omega) ?_)))
 refine Ev.step (fun k => by rw [peristyleref1_CheckValue.j1]) (ev_neg (by simp) ?_)
 unfold cv
 by_cases hb : s.size > 200
 ·rw [if_pos hb]
  exact ev_pos (by omega) (ev_some _)
 ·rw [if_neg hb]
  refine ev_neg (by omega) ?_
  have key : ∀ d i : Nat, i ≤ s.size → s.size - i ≤ d → Ev (fun k => peristyleref1_CheckValue.l0 k (i : Int) 3 0 s) (if (s.data.toList.drop i).all okb then 0 else 3) := by
   intro d
   induction d with
   | zero =>
    intro i hi hd
    refine Ev.step (fun k => by rw [peristyleref1_CheckValue.l0]) (ev_neg (by omega) ?_)
    rw [List.drop_eq_nil_of_le (by rw [size8]; omega)]
    exact ev_some _
   | succ d ih =>
    intro i hi hd
    refine Ev.step (fun k => by rw [peristyleref1_CheckValue.l0]) ?_
    by_cases hlt : i < s.size
    ·have hl : i < s.data.toList.length := by rw [size8]; exact hlt
     refine ev_pos (by omega) (ev_pos (by omega) ?_)
     rw [btD hlt, getD_drop_head (d := 0) hl, List.all_cons]
     by_cases h1 : ((s.data.toList.getD i 0).toNat : Int) < 32
     ·have ho : okb (s.data.toList.getD i 0) = false := by
       unfold okb
       rw [decide_eq_false (by omega), Bool.false_and]
      rw [ho, Bool.false_and, if_neg (by simp)]
      exact ev_pos h1 (ev_some _)
     ·by_cases h2 : ((s.data.toList.getD i 0).toNat : Int) > 126
      ·have ho : okb (s.data.toList.getD i 0) = false := by
        unfold okb
        rw [decide_eq_false (p := ((s.data.toList.getD i 0).toNat : Int) ≤ 126) (by omega), Bool.and_false]
       rw [ho, Bool.false_and, if_neg (by simp)]
       exact ev_neg h1 (ev_pos h2 (ev_some _))
      ·have ho : okb (s.data.toList.getD i 0) = true := by
        unfold okb
        rw [decide_eq_true (by omega), decide_eq_true (by omega)]
        rfl
       rw [ho, Bool.true_and]
       refine ev_neg h1 (ev_neg h2 ?_)
       rw [w64 (by omega) (by omega)]
       exact ih (i + 1) (by omega) (by omega)
    ·refine ev_neg (by omega) ?_
     rw [List.drop_eq_nil_of_le (by rw [size8]; omega)]
     exact ev_some _
  have := key s.size 0 (by omega) (by omega)
  simpa using this
theorem rcheckT_ev (l : List ByteArray) : Ev (fun k => q_checkTexts.f k l) (chkT l) := by
 unfold q_checkTexts.f chkT
 by_cases h : l.length > 2000
 ·rw [if_pos h]
  exact ev_pos (by omega) (ev_some _)
 ·rw [if_neg h]
  refine ev_neg (by omega) ?_
  have key : ∀ d i : Nat, i ≤ l.length → l.length - i ≤ d → Ev (fun k => q_checkTexts.l0 k l (l.length : Int) (i : Int)) (chkL (l.drop i)) := by
   intro d
   induction d with
   | zero =>
    intro i hi hd
    refine Ev.step (fun k => by rw [q_checkTexts.l0]) (ev_neg (by omega) ?_)
    rw [List.drop_eq_nil_of_le (by omega)]
    exact ev_some _
   | succ d ih =>
    intro i hi hd
    refine Ev.step (fun k => by rw [q_checkTexts.l0]) ?_
    by_cases hlt : i < l.length
    ·refine ev_pos (by omega) (ev_pos (by omega) (ev_pos (by omega) ?_))
     rw [rdTe, getD_drop_head (d := ByteArray.empty) hlt, chkL]
     refine Ev.bind (rcv_ev _) ?_
     by_cases h0 : cv (l.getD i ByteArray.empty) = 0
     ·rw [show (if cv (l.getD i ByteArray.empty) = 0 then chkL (l.drop (i + 1)) else cv (l.getD i ByteArray.empty)) = chkL (l.drop (i + 1)) from if_pos h0]
      refine ev_pos h0 ?_
      rw [w64 (by omega) (by omega)]
      exact ih (i + 1) (by omega) (by omega)
     ·rw [show (if cv (l.getD i ByteArray.empty) = 0 then chkL (l.drop (i + 1)) else cv (l.getD i ByteArray.empty)) = cv (l.getD i ByteArray.empty) from if_neg h0]
      exact ev_neg h0 (ev_some _)
    ·refine ev_neg (by omega) ?_
     rw [List.drop_eq_nil_of_le (by omega)]
     exact ev_some _
  have := key l.length 0 (by omega) (by omega)
  simpa using this
theorem ralike_ev {a b : ByteArray} (ha : a.size ≤ 100000) : Ev (fun k => q_alike.f k a b) (comL a.data.toList b.data.toList : Int) := by
 have key : ∀ n i : Nat, a.size - i ≤ n → i ≤ a.size → i ≤ b.size → Ev (fun k => q_alike.l0 k a b (i : Int)) ((i + comL (a.data.toList.drop i) (b.data.toList.drop i) : Nat) : Int) := by
  intro n
  induction n with
  | zero =>
   intro i hn hi hj
   refine Ev.step (fun k => by rw [q_alike.l0]) (ev_neg (by omega) ?_)
   rw [List.drop_eq_nil_of_le (show a.data.toList.length ≤ i by rw [size8]; omega)]
   exact ev_some _
  | succ n ih =>
   intro i hn hi hj
   refine Ev.step (fun k => by rw [q_alike.l0]) ?_
   by_cases h1 : i < a.size
   ·refine ev_pos (by omega) ?_
    by_cases h2 : i < b.size
    ·have l1 : i < a.data.toList.length := by rw [size8]; exact h1
     have l2 : i < b.data.toList.length := by rw [size8]; exact h2
     refine ev_pos (by omega) (ev_pos (by omega) ?_)
     rw [btD h1, btD h2, getD_drop_head (d := 0) l1, getD_drop_head (d := 0) l2, comL]
     by_cases he : a.data.toList.getD i 0 = b.data.toList.getD i 0
     ·rw [if_pos he]
      refine ev_pos (by rw [he]) ?_
      rw [w64 (by omega) (by omega)]
      exact ev_eq (ih (i + 1) (by omega) (by omega) (by omega)) (by omega)
     ·rw [if_neg he]
      refine ev_neg (fun h => he (UInt8.toNat_inj.1 (by omega))) (ev_some _)
    ·refine ev_neg (by omega) ?_
     rw [List.drop_eq_nil_of_le (show b.data.toList.length ≤ i by rw [size8]; omega)]
     exact ev_eq (ev_some _) (by cases a.data.toList.drop i <;> simp [comL])
   ·refine ev_neg (by omega) ?_
    rw [List.drop_eq_nil_of_le (show a.data.toList.length ≤ i by rw [size8]; omega)]
    exact ev_some _
 have := key a.size 0 (by omega) (by omega) (by omega)
 unfold q_alike.f
 simpa using this
theorem indexT_ev {d : List (List UInt8)} (hs : d.Pairwise (· < ·)) (hd : d.length ≤ 100000) {v : ByteArray} (h : v.data.toList ∈ d) : Ev (fun k => s_Indext.f k (d.map mk8) v) (plT d v.data.toList : Int) := by
 have hl := plT_lt h
 have hlen : (d.map mk8).length = d.length := by simp
 have fin : ∀ i : Nat, i = plT d v.data.toList → Ev (fun k => s_Indext.l0 k (d.map mk8) v (d.length : Int) (i : Int)) (plT d v.data.toList : Int) := by
  intro i hi
  refine Ev.step (fun k => by rw [s_Indext.l0]) (ev_pos (by omega) (ev_pos (by omega) (ev_pos (by omega) (ev_pos ?_ ?_))))
  ·rw [rdTm, hi, plT_get h, mk8_of]
  ·rw [hi]
   exact ev_some _
 have key : ∀ n (i : Nat), i ≤ plT d v.data.toList → plT d v.data.toList - i ≤ n → Ev (fun k => s_Indext.l0 k (d.map mk8) v (d.length : Int) (i : Int)) (plT d v.data.toList : Int) := by
  intro n
  induction n with
  | zero => intro i hi hn; exact fin i (by omega)
  | succ n ih =>
   intro i hi hn
   by_cases he : i = plT d v.data.toList
   ·exact fin i he
   ·have hlt := (plT_iff hs h (show i < d.length by omega)).2 (by omega)
    refine Ev.step (fun k => by rw [s_Indext.l0]) (ev_pos (by omega) (ev_pos (by omega) (ev_pos (by omega) (ev_neg ?_ ?_))))
    ·rw [rdTm, Lib.toList_data, Lib.toList_data, mk8_data]
     intro e
     rw [← e] at hlt
     exact List.lt_irrefl _ hlt
    ·rw [w64 (by omega) (by omega)]
     exact ih (i + 1) (by omega) (by omega)
 unfold s_Indext.f
 rw [hlen]
 exact key _ 0 (by omega) (Nat.le_refl _)
theorem rt_l0 {l : List ByteArray} (hn : l.length ≤ 2000) (hs : ∀ s ∈ l, s.size ≤ 200) (d : Nat) : ∀ (i : Nat) (out : List Int), i ≤ l.length → l.length - i ≤ d → out.length + 210 * (l.length - i) ≤ 1000000 →
 Ev (fun k => q_textBytes.l0 k out l (l.length : Int) (i : Int)) (out ++ txs (l.drop i)) := by
 induction d with
 | zero =>
  intro i out hi hd ho
  refine Ev.step (fun k => by rw [q_textBytes.l0]) (ev_neg (by omega) ?_)
  rw [List.drop_eq_nil_of_le (by omega)]
  exact ev_eq (ev_some _) (by simp [txs])
 | succ d ih =>
  intro i out hi hd ho
  refine Ev.step (fun k => by rw [q_textBytes.l0]) ?_
  by_cases hlt : i < l.length
  ·have hm : l.getD i ByteArray.empty ∈ l := by
    simp only [List.getD, List.getElem?_eq_getElem hlt, Option.getD_some]
    exact List.getElem_mem hlt
   have hz := hs _ hm
   have hc := cl10 (n := (l.getD i ByteArray.empty).size) (by omega)
   have hb := bytesOf_length (l.getD i ByteArray.empty)
   rw [rdTe]
   refine ev_pos (by omega) (ev_pos (by omega) (ev_pos (by omega) (Ev.bind (rcount_ev (n := (l.getD i ByteArray.empty).size) (by omega)) ?_)))
   refine ev_pos (by omega) (Ev.bind (ev_some _) (ev_pos (by rw [List.length_append]; omega) ?_))
   rw [w64 (by omega) (by omega)]
   have := ih (i + 1) (out ++ cnt (l.getD i ByteArray.empty).size ++ bytesOf (l.getD i ByteArray.empty)) (by omega) (by omega) (by rw [List.length_append, List.length_append]; omega)
   refine ev_eq this ?_
   rw [getD_drop_head (d := ByteArray.empty) hlt]
   simp [txs, List.append_assoc]
  ·refine ev_neg (by omega) ?_
   rw [List.drop_eq_nil_of_le (by omega)]
   exact ev_eq (ev_some _) (by simp [txs])
theorem comL_nil (s : List UInt8) : comL [] s = 0 := by cases s <;> rfl
theorem rt_l1 {l : List ByteArray} (hl : l.length ≤ 2000) {D : List (List UInt8)} (hD : D.length ≤ 2000) (hs : ∀ x ∈ D, x.length ≤ 200) (r : List Int) (d : Nat) : ∀ (i : Nat) (out : List Int) (b : List UInt8), b = (if i = 0 then [] else D.getD (i - 1) []) → i ≤ D.length → D.length - i ≤ d → out.length + 220 * (D.length - i) ≤ 1000000 →
 Ev (fun k => q_textBytes.l2 k (out ++ preT b (D.drop i)) (D.map mk8) (List.replicate l.length 0) l (l.length : Int) 0) r →
 Ev (fun k => q_textBytes.l1 k l out (D.map mk8) (D.length : Int) (i : Int)) r := by
 have hlen : (D.map mk8).length = D.length := by simp
 have fin : ∀ (i : Nat) (out : List Int) (b : List UInt8), ¬ i < D.length → Ev (fun k => q_textBytes.l2 k (out ++ preT b (D.drop i)) (D.map mk8) (List.replicate l.length 0) l (l.length : Int) 0) r →
  Ev (fun k => q_textBytes.l1 k l out (D.map mk8) (D.length : Int) (i : Int)) r := by
  intro i out b hi h
  rw [List.drop_eq_nil_of_le (by omega)] at h
  refine Ev.step (fun k => by rw [q_textBytes.l1]) (ev_neg (by omega) (ev_pos (by omega) (ev_pos (by omega) ?_)))
  rw [Int.toNat_natCast]
  simpa [preT] using h
 induction d with
 | zero => intro i out b hb hi hd ho h; exact fin i out b (by omega) h
 | succ d ih =>
  intro i out b hb hi hd ho h
  by_cases hlt : i < D.length
  ·have hm : D.getD i [] ∈ D := by
    simp only [List.getD, List.getElem?_eq_getElem hlt, Option.getD_some]
    exact List.getElem_mem hlt
   have hz := hs _ hm
   rw [getD_drop_head (d := ([] : List UInt8)) hlt, preT] at h
   have ihs := fun out' => ih (i + 1) out' (D.getD i []) (by rw [if_neg (by omega), Nat.add_sub_cancel]) (by omega) (by omega)
   refine Ev.step (fun k => by rw [q_textBytes.l1]) (ev_pos (by omega) (ev_pos (by omega) (ev_pos (by omega) ?_)))
   by_cases h0 : i = 0
   ·subst h0
    rw [if_pos rfl] at hb
    subst hb
    rw [rdTm]
    generalize D.getD 0 [] = s at hz h ihs ⊢
    rw [comL_nil, Nat.sub_zero, List.drop_zero] at h
    have h1 := cl10 (n := 0) (by omega)
    have h2 := cl10 (n := s.length) (by omega)
    refine ev_neg (by omega) (Ev.bind (rcount_ev (n := 0) (by omega)) (ev_pos (by omega) (Ev.bind (ev_some _) ?_)))
    rw [mk8_size, w64 (n := (s.length : Int) - 0) (by omega) (by omega), show (s.length : Int) - 0 = (s.length : Int) by omega]
    refine Ev.bind (rcount_ev (n := s.length) (by omega)) (ev_pos (by rw [List.length_append]; omega) (Ev.bind (ev_some _) (ev_pos (by omega) ?_)))
    have he := ext_drop s 0 (by omega)
    rw [List.drop_zero] at he
    rw [he, mk8_size, n8_of, mk8_data, w64 (by omega) (by omega)]
    refine ev_pos (by rw [List.length_append, List.length_append]; omega) (ihs _ (by simp only [List.length_append, n8_len]; omega) ?_)
    simpa [List.append_assoc] using h
   ·rw [if_neg h0] at hb
    have hi1 : wrap64 ((i : Int) - 1) = ((i - 1 : Nat) : Int) := by rw [w64 (by omega) (by omega)]; omega
    have hm1 : D.getD (i - 1) [] ∈ D := by
     simp only [List.getD, List.getElem?_eq_getElem (show i - 1 < D.length by omega), Option.getD_some]
     exact List.getElem_mem _
    have hz1 := hs _ hm1
    rw [hi1, rdTm, rdTm, ← hb]
    rw [← hb] at hz1
    generalize D.getD i [] = s at hz h ihs ⊢
    have hc := comL_le b s
    have h1 := cl10 (n := comL b s) (by omega)
    have h2 := cl10 (n := s.length - comL b s) (by omega)
    have hcom := ralike_ev (a := mk8 b) (b := mk8 s) (by rw [mk8_size]; omega)
    rw [mk8_data, mk8_data] at hcom
    refine ev_pos (by omega) (ev_pos (by omega) (ev_pos (by omega) (Ev.bind hcom (Ev.bind (rcount_ev (n := comL b s) (by omega)) (ev_pos (by omega) (Ev.bind (ev_some _) ?_))))))
    rw [mk8_size, w64 (n := (s.length : Int) - (comL b s : Int)) (by omega) (by omega), show (s.length : Int) - (comL b s : Int) = ((s.length - comL b s : Nat) : Int) by omega]
    refine Ev.bind (rcount_ev (n := s.length - comL b s) (by omega)) (ev_pos (by rw [List.length_append]; omega) (Ev.bind (ev_some _) (ev_pos (by omega) (ev_pos (by omega) ?_))))
    rw [Int.toNat_natCast, ext_drop s _ hc.2, mk8_size, List.length_drop, n8_of, mk8_data, w64 (by omega) (by omega)]
    refine ev_pos (by rw [List.length_append, List.length_append]; omega) (ihs _ (by simp only [List.length_append, n8_len, List.length_drop]; omega) ?_)
    simpa [List.append_assoc] using h
  ·exact fin i out b hlt h
theorem rt_l2 {l : List ByteArray} (hn : l.length ≤ 2000) (hne : l ≠ []) {out : List Int} (ho : out.length ≤ 1000000) :
 Ev (fun k => q_textBytes.l2 k out ((dsT l).map mk8) (List.replicate l.length 0) l (l.length : Int) 0) (out ++ pb (allbits (plsT l) (Lib.bitLen ((dsT l).length - 1)))) := by
 have hd := dsT_len l
 have hp := dsT_ne hne
 have hs := dsT_sorted l
 have hlen : ((dsT l).map mk8).length = (dsT l).length := by simp
 have hb11 := bitLen11' (n := (dsT l).length) (by omega)
 have hmul : l.length * Lib.bitLen ((dsT l).length - 1) ≤ 2000 * 11 := Nat.mul_le_mul hn hb11
 have hfin : ∀ i : Nat, ¬ i < l.length → Ev (fun k => q_textBytes.l2 k out ((dsT l).map mk8) (plsT l) l (l.length : Int) (i : Int)) (out ++ pb (allbits (plsT l) (Lib.bitLen ((dsT l).length - 1)))) := by
  intro i hi
  refine Ev.step (fun k => by rw [q_textBytes.l2]) (ev_neg (by omega) ?_)
  rw [hlen, w64 (n := ((dsT l).length : Int) - 1) (by omega) (by omega), rwidth_ev (by omega) (by omega), show (((dsT l).length : Int) - 1).toNat = (dsT l).length - 1 by omega]
  have hw := bitLen64 (x := (dsT l).length - 1) (by omega)
  refine Ev.bind (ev_some _) (Ev.bind (rpacked_ev (l := plsT l) (by rw [plsT_len]; exact hn) hw (fun v hv => by have := plsT_range v hv; omega)) (ev_pos ?_ (ev_some _)))
  rw [pb_len, allbits_len, plsT_len]
  omega
 have key : ∀ n (i : Nat), i ≤ l.length → l.length - i ≤ n → Ev (fun k => q_textBytes.l2 k out ((dsT l).map mk8) (((l.take i).map fun s => (plT (dsT l) s.data.toList : Int)) ++ List.replicate (l.length - i) 0) l (l.length : Int) (i : Int)) (out ++ pb (allbits (plsT l) (Lib.bitLen ((dsT l).length - 1)))) := by
  intro n
  induction n with
  | zero =>
   intro i hi hn'
   rw [List.take_of_length_le (by omega), show l.length - i = 0 by omega, List.replicate_zero, List.append_nil]
   exact hfin i (by omega)
  | succ n ih =>
   intro i hi hn'
   by_cases hlt : i < l.length
   ·have hm : l.getD i ByteArray.empty ∈ l := by
     simp only [List.getD, List.getElem?_eq_getElem hlt, Option.getD_some]
     exact List.getElem_mem hlt
    refine Ev.step (fun k => by rw [q_textBytes.l2]) (ev_pos (by omega) (ev_pos (by omega) (ev_pos (by omega) ?_)))
    rw [rdTe]
    refine Ev.bind (indexT_ev hs.1 (by omega) ((hs.2 _).2 (List.mem_map.2 ⟨_, hm, rfl⟩))) (ev_pos (by simp; omega) ?_)
    rw [w64 (by omega) (by omega)]
    have := ih (i + 1) (by omega) (by omega)
    rw [List.take_add_one, List.map_append] at this
    have e : (((l.take i).map fun s : ByteArray => (plT (dsT l) s.data.toList : Int)) ++ List.replicate (l.length - i) 0).set (i : Int).toNat (plT (dsT l) (l.getD i ByteArray.empty).data.toList : Int) = (l.take i).map (fun s : ByteArray => (plT (dsT l) s.data.toList : Int)) ++ (l[i]?.toList).map (fun s : ByteArray => (plT (dsT l) s.data.toList : Int)) ++ List.replicate (l.length - (i + 1)) 0 := by
     rw [Int.toNat_natCast, List.set_append_right _ _ (by simp; omega)]
     rw [show l.length - i = (l.length - (i + 1)) + 1 by omega, List.replicate_succ]
     simp [List.getD, hlt, Nat.min_eq_left hi]
    rw [e]
    exact this
   ·rw [List.take_of_length_le (by omega), show l.length - i = 0 by omega, List.replicate_zero, List.append_nil]
    exact hfin i hlt
 have := key _ 0 (by omega) (Nat.le_refl _)
 simpa using this
theorem rtextB_ev {c : Nat} (hc : c = 1 ∨ c = 3) {l : List ByteArray} (h : OkT l) : Ev (fun k => q_textBytes.f k (c : Int) l) (encT c l) := by
 have hn := h.1
 have hsz : ∀ s ∈ l, s.size ≤ 200 := fun s hs => cv_size (h.2 s hs)
 have hcl := cl10 (n := l.length) (by omega)
 unfold q_textBytes.f
 rw [show (c : Int) % 256 = (c : Int) by omega]
 refine Ev.bind (ev_some _) (Ev.bind (rcount_ev (n := l.length) (by omega)) (ev_pos (by simp; omega) (Ev.bind (ev_some _) ?_)))
 by_cases hz : l = []
 ·refine ev_pos (by rw [hz]; rfl) (ev_eq (ev_some _) ?_)
  rw [hz]; simp [encT]
 ·have hp := List.length_pos_iff.2 hz
  refine ev_neg (by omega) ?_
  rcases hc with rfl | rfl
  ·refine ev_pos rfl ?_
   have := rt_l0 hn hsz _ 0 ([((1 : Nat) : Int)] ++ cnt l.length) (by omega) (Nat.le_refl _) (by simp; omega)
   refine ev_eq this ?_
   simp [encT, hz]
  ·refine ev_neg (by omega) ?_
   have hd := dsT_len l
   have hD := dsT_size h
   have hdl := cl10 (n := (dsT l).length) (by omega)
   unfold s_Clonet.f s_Sortt.f s_Compactt.f
   rw [if_pos (show l.length * 16 ≤ 140737488355328 by omega)]
   refine Ev.bind (ev_some _) ?_
   rw [if_pos (show l.length < 4611686018427387904 by omega)]
   refine Ev.bind (ev_some _) (Ev.bind (ev_some _) ?_)
   have e : (List.map (fun l => (⟨l.toArray⟩ : ByteArray)) (Lib.compact (List.map (fun s => s.data.toList) (List.map (fun l => (⟨l.toArray⟩ : ByteArray)) ((List.map (fun s => s.data.toList) l).mergeSort fun x y => decide (x ≤ y)))))) = (dsT l).map mk8 := by
    unfold dsT l8
    rw [List.map_map]
    have hid : ((fun s : ByteArray => s.data.toList) ∘ fun l => (⟨l.toArray⟩ : ByteArray)) = id := by
     funext x
     simp
    rw [hid, List.map_id]
    rfl
   rw [e]
   have hlen : ((dsT l).map mk8).length = (dsT l).length := by simp
   rw [hlen]
   refine Ev.bind (rcount_ev (n := (dsT l).length) (by omega)) (ev_pos (by simp; omega) ?_)
   have hpl := preT_len [] (dsT l) hD
   have := rt_l1 (l := l) hn (D := dsT l) (by omega) hD (encT 3 l) _ 0 ([((3 : Nat) : Int)] ++ cnt l.length ++ cnt (dsT l).length) [] (by simp) (by omega) (Nat.le_refl _) (by simp; omega) ?_
   ·exact this
   ·refine ev_eq (rt_l2 hn hz (by simp; omega)) ?_
    simp [encT, hz, dicT, List.append_assoc]
theorem rEncodeT_ev (c : Int) (l : List ByteArray) : Ev (fun k => q_EncodeTexts.f k c l) (encTA c l) := by
 have j0 : (c = 1 ∨ c = 3) → Ev (fun k => q_EncodeTexts.j0 k c l false) (encTA c l) := by
  intro hc
  have e : encTA c l = (if chkT l = 0 then (encT c.toNat l, 0) else ([], chkT l)) := if_pos hc
  refine Ev.step (fun k => by rw [q_EncodeTexts.j0]) (ev_neg (by simp) (Ev.bind (rcheckT_ev l) ?_))
  by_cases h0 : chkT l = 0
  ·rw [if_pos h0] at e
   have hE := rtextB_ev (c := c.toNat) (by omega) (chkT_ok.1 h0)
   rw [show ((c.toNat : Nat) : Int) = c by omega] at hE
   exact ev_pos h0 (Ev.bind hE (ev_eq (ev_some _) e.symm))
  ·rw [if_neg h0] at e
   exact ev_neg h0 (ev_eq (ev_some _) e.symm)
 unfold q_EncodeTexts.f
 by_cases h1 : c = 1
 ·exact ev_pos h1 (j0 (Or.inl h1))
 ·refine ev_neg h1 ?_
  by_cases h3 : c = 3
  ·rw [show (c != 3) = false by simpa using h3]
   exact j0 (Or.inr h3)
  ·rw [show (c != 3) = true by simpa using h3]
   exact Ev.step (fun k => by rw [q_EncodeTexts.j0]) (ev_pos rfl (ev_eq (ev_some _) (if_neg (by omega)).symm))
/-- What BestTexts answers. -/
def bestTA (l : List ByteArray) : Int × Int := if chkT l = 0 then (if ((encT 3 l).length : Int) < ((encT 1 l).length : Int) then (3, 0) else (1, 0)) else (0, chkT l)
theorem BestT_ev (l : List ByteArray) : Ev (fun k => e_BestTexts.f k l) (bestTA l) := by
 unfold e_BestTexts.f
 refine Ev.bind (checkT_ev l) ?_
 by_cases h0 : chkT l = 0
 ·have h := chkT_ok.1 h0
  rw [show bestTA l = (if ((encT 3 l).length : Int) < ((encT 1 l).length : Int) then (3, 0) else (1, 0)) from if_pos h0]
  refine ev_pos h0 (Ev.bind (encodeT_ev (c := 3) (Or.inr rfl) h) (Ev.bind (encodeT_ev (c := 1) (Or.inl rfl) h) ?_))
  by_cases hl : ((encT 3 l).length : Int) < ((encT 1 l).length : Int)
  ·exact ev_eq (ev_pos hl (ev_some _)) (if_pos hl).symm
  ·exact ev_eq (ev_neg hl (ev_some _)) (if_neg hl).symm
 ·exact ev_neg h0 (ev_eq (ev_some _) (if_neg h0).symm)
theorem rBestT_ev (l : List ByteArray) : Ev (fun k => q_BestTexts.f k l) (bestTA l) := by
 unfold q_BestTexts.f
 refine Ev.bind (rcheckT_ev l) ?_
 by_cases h0 : chkT l = 0
 ·have h := chkT_ok.1 h0
  rw [show bestTA l = (if ((encT 3 l).length : Int) < ((encT 1 l).length : Int) then (3, 0) else (1, 0)) from if_pos h0]
  refine ev_pos h0 (Ev.bind (rtextB_ev (c := 3) (Or.inr rfl) h) (Ev.bind (rtextB_ev (c := 1) (Or.inl rfl) h) ?_))
  by_cases hl : ((encT 3 l).length : Int) < ((encT 1 l).length : Int)
  ·exact ev_eq (ev_pos hl (ev_some _)) (if_pos hl).symm
  ·exact ev_eq (ev_neg hl (ev_some _)) (if_neg hl).symm
 ·exact ev_neg h0 (ev_eq (ev_some _) (if_neg h0).symm)
theorem qct_le (s : List Int) (bad : Bool) : (qct s bad).2.1.length ≤ s.length := by
 unfold qct
 split
 ·simp
 ·exact rc_le s
theorem rtextE {s : List Int} (hs : Byt s) (bad : Bool) {x : ByteArray} (n : Nat) (hb : x.size + s.length ≤ 1000000) :
 ∃ a : ByteArray × List Int × Bool, Ev (fun k => q_reader_text.f k s bad x (n : Int)) a ∧ Byt a.2.1 ∧ a.1.size + a.2.1.length ≤ x.size + s.length := by
 have hv := qct_val s bad
 have hle := qct_le s bad
 have hby := qct_byt (bad := bad) hs
 obtain ⟨q, hq⟩ := Int.eq_ofNat_of_zero_le hv.1
 have stop : ((⟨#[]⟩ : ByteArray), (qct s bad).2.1, true).1.size + ((⟨#[]⟩ : ByteArray), (qct s bad).2.1, true).2.1.length ≤ x.size + s.length := by
  show 0 + (qct s bad).2.1.length ≤ x.size + s.length
  omega
 unfold q_reader_text.f
 by_cases h1 : (qct s bad).2.2 = true
 ·exact ⟨_, Ev.bind (qct_ev bad hs) (ev_pos h1 (ev_some _)), hby, stop⟩
 ·by_cases h2 : n > x.size
  ·exact ⟨_, Ev.bind (qct_ev bad hs) (ev_neg h1 (ev_pos (show (n : Int) > (x.size : Int) by omega) (ev_some _))), hby, stop⟩
  ·by_cases h3 : (qct s bad).1 > ((qct s bad).2.1.length : Int)
   ·exact ⟨_, Ev.bind (qct_ev bad hs) (ev_neg h1 (ev_neg (show ¬ (n : Int) > (x.size : Int) by omega) (ev_pos h3 (ev_some _)))), hby, stop⟩
   ·have h4 : (x.extract 0 (n : Int).toNat).size ≤ x.size := by rw [ByteArray.size_extract]; omega
    have h5 : (strOfNums ((qct s bad).2.1.take ((qct s bad).1).toNat)).size ≤ (qct s bad).1.toNat := by rw [strN_size, List.length_take]; omega
    refine ⟨(x.extract 0 (n : Int).toNat ++ strOfNums ((qct s bad).2.1.take ((qct s bad).1).toNat), (qct s bad).2.1.drop ((qct s bad).1).toNat, (qct s bad).2.2), Ev.bind (qct_ev bad hs) (ev_neg h1 (ev_neg (show ¬ (n : Int) > (x.size : Int) by omega) (ev_neg h3 (ev_pos (show (0 : Int) ≤ (n : Int) by omega) (ev_pos (show (n : Int) ≤ (x.size : Int) by omega) (ev_pos hv.1 (ev_pos (show (qct s bad).1 ≤ ((qct s bad).2.1.length : Int) by omega) (ev_pos ?_ (ev_some _))))))))), hby.drop _, ?_⟩
    ·show (x.extract 0 (n : Int).toNat).size + (strOfNums ((qct s bad).2.1.take ((qct s bad).1).toNat)).size ≤ _
     omega
    ·show (x.extract 0 (n : Int).toNat ++ strOfNums ((qct s bad).2.1.take ((qct s bad).1).toNat)).size + ((qct s bad).2.1.drop ((qct s bad).1).toNat).length ≤ _
     rw [ByteArray.size_append, List.length_drop]
     omega
theorem rtextR {u : List UInt8} (hu : u.length ≤ 100000) {tl : List Int} {x : ByteArray} {n : Nat} (hn : n ≤ x.size) (hx : x.size ≤ 1000000) (hs : Byt (cnt u.length ++ (n8 u ++ tl))) :
 Ev (fun k => q_reader_text.f k (cnt u.length ++ (n8 u ++ tl)) false x (n : Int)) (x.extract 0 n ++ mk8 u, tl, false) := by
 have hc := qct_cnt (n := u.length) (n8 u ++ tl) (by omega)
 have hl := n8_len u
 have ht : (n8 u ++ tl).take u.length = n8 u := by rw [List.take_append_of_le_length (by omega), List.take_of_length_le (by omega)]
 have hd : (n8 u ++ tl).drop u.length = tl := by rw [List.drop_append_of_le_length (by omega), List.drop_eq_nil_of_le (by omega), List.nil_append]
 have h4 : (x.extract 0 n).size ≤ x.size := by rw [ByteArray.size_extract]; omega
 unfold q_reader_text.f
 refine Ev.bind (qct_ev false hs) ?_
 rw [hc]
 dsimp only
 refine ev_neg (by simp) (ev_neg (by omega) (ev_neg (by rw [List.length_append]; omega) (ev_pos (by omega) (ev_pos (by omega) (ev_pos (by omega) (ev_pos (by rw [List.length_append]; omega) ?_))))))
 rw [Int.toNat_natCast, Int.toNat_natCast, ht, hd, str_n8]
 exact ev_pos (by rw [mk8_size]; omega) (ev_some _)
theorem tx0_total {many : Nat} (hm : many ≤ 2000) (d : Nat) : ∀ (out : List ByteArray) (s : List Int) (bad : Bool), out.length ≤ many → many - out.length ≤ d → Byt s → s.length ≤ 500000 → ∃ r : AnT, Ev (fun k => q_reader_texts.l0 k (many : Int) out s bad) r := by
 induction d with
 | zero => intro out s bad ho hd hs hl; exact ⟨_, Ev.step (fun k => by rw [q_reader_texts.l0]) (ev_neg (by omega) (ev_some _))⟩
 | succ d ih =>
  intro out s bad ho hd hs hl
  by_cases h : out.length < many
  ·cases bad with
   | true => exact ⟨_, Ev.step (fun k => by rw [q_reader_texts.l0]) (ev_pos (by omega) (ev_pos rfl (ev_some _)))⟩
   | false =>
    obtain ⟨a, ha, hby, hle⟩ := rtextE hs false (x := mk8 []) 0 (by rw [mk8_size]; simp; omega)
    have hz : (mk8 []).size = 0 := by rw [mk8_size]; rfl
    obtain ⟨r, hr⟩ := ih (out ++ [a.1]) a.2.1 a.2.2 (by simp; omega) (by simp; omega) hby (by omega)
    have ha' : Ev (fun k => q_reader_text.f k s false (⟨#[]⟩ : ByteArray) 0) a := ha
    exact ⟨r, Ev.step (fun k => by rw [q_reader_texts.l0]) (ev_pos (by omega) (ev_neg (by simp) (Ev.bind ha' (ev_pos (show out.length < 8796093022208 by omega) hr))))⟩
  ·exact ⟨_, Ev.step (fun k => by rw [q_reader_texts.l0]) (ev_neg (by omega) (ev_some _))⟩
theorem tx2 {D : List ByteArray} (s : List Int) (bad : Bool) (u : List Int) (hu : u.length ≤ 2000) (h0 : ∀ q ∈ u, 0 ≤ q) (d : Nat) : ∀ (i : Nat) (out : List ByteArray), out.length ≤ 4000 - (u.length - i) → i ≤ u.length → u.length - i ≤ d →
 (∃ r : AnT, Ev (fun k => q_reader_texts.l2 k out D u (u.length : Int) (i : Int) s bad) r) ∧
 ((∀ q ∈ u, q < (D.length : Int)) → Ev (fun k => q_reader_texts.l2 k out D u (u.length : Int) (i : Int) s bad) (out ++ (u.drop i).map (rdOf ByteArray.empty D), s, bad)) := by
 have fin : ∀ (i : Nat) (out : List ByteArray), ¬ i < u.length → Ev (fun k => q_reader_texts.l2 k out D u (u.length : Int) (i : Int) s bad) (out ++ (u.drop i).map (rdOf ByteArray.empty D), s, bad) := by
  intro i out h
  refine Ev.step (fun k => by rw [q_reader_texts.l2]) (ev_neg (by omega) ?_)
  rw [List.drop_eq_nil_of_le (by omega)]
  exact ev_eq (ev_some _) (by simp)
 induction d with
 | zero => intro i out ho hi hd; exact ⟨⟨_, fin i out (by omega)⟩, fun _ => fin i out (by omega)⟩
 | succ d ih =>
  intro i out ho hi hd
  by_cases hlt : i < u.length
  ·have hm := mem_getD hlt
   have hq0 := h0 _ hm
   obtain ⟨⟨r, hr⟩, h2⟩ := ih (i + 1) (out ++ [rdOf ByteArray.empty D (u.getD i 0)]) (by simp; omega) (by omega) (by omega)
   have head : ∀ r : AnT, u.getD i 0 < (D.length : Int) → Ev (fun k => q_reader_texts.l2 k (out ++ [rdOf ByteArray.empty D (u.getD i 0)]) D u (u.length : Int) ((i + 1 : Nat) : Int) s bad) r → Ev (fun k => q_reader_texts.l2 k out D u (u.length : Int) (i : Int) s bad) r := by
    intro r hq h
    refine Ev.step (fun k => by rw [q_reader_texts.l2]) ?_
    rw [rdD, w64 (n := (i : Int) + 1) (by omega) (by omega)]
    exact ev_pos (by omega) (ev_pos (by omega) (ev_pos (by omega) (ev_neg (by omega) (ev_pos (by omega) (ev_pos (by omega) (ev_pos (by omega) h))))))
   constructor
   ·by_cases hq : u.getD i 0 < (D.length : Int)
    ·exact ⟨r, head r hq hr⟩
    ·refine ⟨([], s, true), Ev.step (fun k => by rw [q_reader_texts.l2]) ?_⟩
     rw [rdD]
     exact ev_pos (by omega) (ev_pos (by omega) (ev_pos (by omega) (ev_pos (by omega) (ev_some _))))
   ·intro hall
    have := head _ (hall _ hm) (h2 hall)
    rw [getD_drop_head (d := 0) hlt, List.map_cons]
    rw [List.append_assoc] at this
    exact this
  ·exact ⟨⟨_, fin i out hlt⟩, fun _ => fin i out hlt⟩
/-- Behind the distinct texts. -/
theorem tx3_end {many n : Nat} (hm : many ≤ 2000) (h1 : 1 ≤ n) (hn : n ≤ 2000) {D : List ByteArray} (hl : D.length = n) (x : ByteArray) {s : List Int} (hs : Byt s) :
 (∃ r : AnT, Ev (fun k => q_reader_texts.j3 k (many : Int) [] (n : Int) D x false s false) r) ∧
 (s.length = (many * Lib.bitLen (n - 1) + 7) / 8 → (∀ q ∈ ups s many (Lib.bitLen (n - 1)), q < (n : Int)) → Ev (fun k => q_reader_texts.j3 k (many : Int) [] (n : Int) D x false s false) ((ups s many (Lib.bitLen (n - 1))).map (rdOf ByteArray.empty D), [], false)) := by
 have hw := bitLen11' hn
 have e1 : wrap64 ((n : Int) - 1) = (n : Int) - 1 := w64 (by omega) (by omega)
 have e2 : ((n : Int) - 1).toNat = n - 1 := by omega
 have hpk := q_ev hs false (m := many) (w := Lib.bitLen (n - 1)) hm (by omega)
 have head : ∀ (a : Ans) (r : AnT), Ev (fun k => q_reader_unpacked.f k s false (many : Int) ((Lib.bitLen (n - 1) : Nat) : Int)) a → Ev (fun k => q_reader_texts.l2 k [] D a.1 (a.1.length : Int) ((0 : Nat) : Int) a.2.1 a.2.2) r → Ev (fun k => q_reader_texts.j3 k (many : Int) [] (n : Int) D x false s false) r := by
  intro a r ha h
  refine Ev.step (fun k => by rw [q_reader_texts.j3]) (ev_neg (by simp) (ev_neg (by simp) ?_))
  rw [e1, rwidth_ev (by omega) (by omega), e2]
  exact Ev.bind (ev_some _) (Ev.bind ha h)
 by_cases hlen : Lib.bitLen (n - 1) ≤ 60 ∧ (many * Lib.bitLen (n - 1) + 7) / 8 ≤ s.length
 ·rw [if_pos hlen] at hpk
  have hul := ups_len s many (Lib.bitLen (n - 1))
  obtain ⟨⟨r, hr⟩, h2⟩ := tx2 (D := D) (s.drop ((many * Lib.bitLen (n - 1) + 7) / 8)) false (ups s many (Lib.bitLen (n - 1))) (by omega) (fun q hq => (ups_range q hq).1) _ 0 [] (by simp <;> omega) (by omega) (Nat.le_refl _)
  refine ⟨⟨r, head _ r hpk hr⟩, fun he hall => ?_⟩
  have := head _ _ hpk (h2 (by rw [hl]; exact hall))
  rw [List.drop_eq_nil_of_le (show s.length ≤ (many * Lib.bitLen (n - 1) + 7) / 8 by omega)] at this
  simpa using this
 ·rw [if_neg hlen] at hpk
  obtain ⟨⟨r, hr⟩, _⟩ := tx2 (D := D) s true [] (by simp) (by simp) _ 0 [] (by simp) (by simp) (Nat.le_refl _)
  exact ⟨⟨r, head _ r hpk hr⟩, fun he => absurd ⟨by omega, by omega⟩ hlen⟩
theorem tx1_total {many n : Nat} (hm : many ≤ 2000) (h1 : 1 ≤ n) (hn : n ≤ 2000) (d : Nat) : ∀ (D : List ByteArray) (x : ByteArray) (s : List Int) (bad : Bool), D.length + d = n → x.size + s.length ≤ 1000000 → Byt s → ∃ r : AnT, Ev (fun k => q_reader_texts.l1 k (many : Int) [] (n : Int) D x s bad) r := by
 have stop : ∀ (D : List ByteArray) (x : ByteArray) (s : List Int) (bad : Bool), Byt s → (bad = true ∨ D.length = n) → ∃ r : AnT, Ev (fun k => q_reader_texts.l1 k (many : Int) [] (n : Int) D x s bad) r := by
  intro D x s bad hs hl
  have hj : ∃ r : AnT, Ev (fun k => q_reader_texts.j3 k (many : Int) [] (n : Int) D x false s bad) r := by
   cases bad with
   | true => exact ⟨_, Ev.step (fun k => by rw [q_reader_texts.j3]) (ev_neg (by simp) (ev_pos rfl (ev_some _)))⟩
   | false => exact (tx3_end hm h1 hn (hl.resolve_left (by simp)) x hs).1
  obtain ⟨r, hr⟩ := hj
  refine ⟨r, Ev.step (fun k => by rw [q_reader_texts.l1]) ?_⟩
  by_cases h : (D.length : Int) < (n : Int)
  ·have hb : bad = true := hl.resolve_right (by omega)
   subst hb
   exact ev_pos h hr
  ·exact ev_neg h hr
 induction d with
 | zero => intro D x s bad hl hx hs; exact stop D x s bad hs (Or.inr (by omega))
 | succ d ih =>
  intro D x s bad hl hx hs
  cases bad with
  | true => exact stop D x s true hs (Or.inl rfl)
  | false =>
   have hv := qct_val s false
   have hle := qct_le s false
   obtain ⟨p, hp⟩ := Int.eq_ofNat_of_zero_le hv.1
   obtain ⟨a, ha, hby, hal⟩ := rtextE (qct_byt (bad := false) hs) (qct s false).2.2 (x := x) p (by omega)
   rw [← hp] at ha
   obtain ⟨r, hr⟩ := ih (D ++ [a.1]) a.1 a.2.1 a.2.2 (by simp; omega) (by omega) hby
   exact ⟨r, Ev.step (fun k => by rw [q_reader_texts.l1]) (ev_pos (by omega) (Ev.step (fun k => by rw [q_reader_texts.j3]) (ev_pos (show (!false) = true from rfl) (Ev.bind (qct_ev false hs) (Ev.bind ha (ev_pos (show D.length < 8796093022208 by omega) hr))))))⟩
theorem tx1_round {many n : Nat} (hn : n ≤ 2000) (h1 : 1 ≤ n) (tl : List Int) (r : AnT) : ∀ (rest pre : List (List UInt8)) (b : List UInt8), pre.length + rest.length = n → (∀ x ∈ rest, x.length ≤ 200) → b.length ≤ 200 → Byt (preT b rest ++ tl) →
 (∀ x, Ev (fun k => q_reader_texts.j3 k (many : Int) [] (n : Int) ((pre ++ rest).map mk8) x false tl false) r) →
 Ev (fun k => q_reader_texts.l1 k (many : Int) [] (n : Int) (pre.map mk8) (mk8 b) (preT b rest ++ tl) false) r
 | [], pre, b, hl, hx, hb, hby, h => by
  have hlen : (pre.map mk8).length = pre.length := by simp
  have hl' : pre.length = n := by simpa using hl
  rw [List.append_nil] at h
  rw [show preT b ([] : List (List UInt8)) = [] by simp [preT], List.nil_append]
  exact Ev.step (fun k => by rw [q_reader_texts.l1]) (ev_neg (by omega) (h _))
 | s :: t, pre, b, hl, hx, hb, hby, h => by
  have hlen : (pre.map mk8).length = pre.length := by simp
  have hl' : pre.length + (t.length + 1) = n := hl
  have hs := hx s (List.mem_cons_self ..)
  have hc := comL_le b s
  have ht := comL_take b s
  have e : preT b (s :: t) ++ tl = cnt (comL b s) ++ (cnt (s.drop (comL b s)).length ++ (n8 (s.drop (comL b s)) ++ (preT s t ++ tl))) := by rw [preT, List.length_drop]; simp only [List.append_assoc]
  have hb1 : Byt (cnt (s.drop (comL b s)).length ++ (n8 (s.drop (comL b s)) ++ (preT s t ++ tl))) := fun x hx => hby x (by rw [e]; exact List.mem_append_right _ hx)
  have hb2 : Byt (preT s t ++ tl) := fun x hx => hb1 x (List.mem_append_right _ (List.mem_append_right _ hx))
  have c1 := qct_cnt (n := comL b s) (cnt (s.drop (comL b s)).length ++ (n8 (s.drop (comL b s)) ++ (preT s t ++ tl))) (by omega)
  rw [← e] at c1
  have hT := rtextR (u := s.drop (comL b s)) (by rw [List.length_drop]; omega) (tl := preT s t ++ tl) (x := mk8 b) (n := comL b s) (by rw [mk8_size]; omega) (by rw [mk8_size]; omega) hb1
  have hm : (mk8 b).extract 0 (comL b s) ++ mk8 (s.drop (comL b s)) = mk8 s := by
   rw [ext_take, mk8_app, ht, List.take_append_drop]
  rw [hm] at hT
  have := tx1_round (many := many) hn h1 tl r t (pre ++ [s]) s (by simp; omega) (fun x hx' => hx x (List.mem_cons_of_mem _ hx')) hs hb2 (by rw [List.append_assoc]; exact h)
  rw [List.map_append] at this
  refine Ev.step (fun k => by rw [q_reader_texts.l1]) (ev_pos (by omega) (Ev.step (fun k => by rw [q_reader_texts.j3]) (ev_pos (show (!false) = true from rfl) (Ev.bind (qct_ev false hby) ?_))))
  rw [c1]
  exact Ev.bind hT (ev_pos (show (pre.map mk8).length < 8796093022208 by omega) this)
theorem tx0_round : ∀ (rest pre : List ByteArray), pre.length + rest.length ≤ 2000 → (∀ s ∈ rest, s.size ≤ 200) →
 Ev (fun k => q_reader_texts.l0 k ((pre.length + rest.length : Nat) : Int) pre (txs rest) false) (pre ++ rest, [], false)
 | [], pre, hl, hs => by
  rw [List.append_nil, show txs ([] : List ByteArray) = [] from rfl]
  exact Ev.step (fun k => by rw [q_reader_texts.l0]) (ev_neg (by simp) (ev_some _))
 | s :: t, pre, hl, hs => by
  have hz := hs s (List.mem_cons_self ..)
  have hl' : pre.length + (t.length + 1) ≤ 2000 := hl
  have e : txs (s :: t) = cnt s.data.toList.length ++ (n8 s.data.toList ++ txs t) := by rw [size8]; simp [txs, List.append_assoc, n8_of]
  have hby := txs_byt (s :: t)
  have hby' := hby
  rw [e] at hby'
  have hT := rtextR (u := s.data.toList) (by rw [size8]; omega) (tl := txs t) (x := mk8 []) (n := 0) (by omega) (by rw [mk8_size]; simp) hby'
  rw [ext_take, mk8_app, List.take_zero, List.nil_append, mk8_of, ← e] at hT
  have ih := tx0_round t (pre ++ [s]) (by simp; omega) (fun x hx => hs x (List.mem_cons_of_mem _ hx))
  rw [List.length_append, List.length_singleton, show pre.length + 1 + t.length = pre.length + (t.length + 1) by omega, List.append_assoc] at ih
  have hT' : Ev (fun k => q_reader_text.f k (txs (s :: t)) false (⟨#[]⟩ : ByteArray) 0) (s, txs t, false) := hT
  exact Ev.step (fun k => by rw [q_reader_texts.l0]) (ev_pos (by simp; omega) (ev_neg (by simp) (Ev.bind hT' (ev_pos (show pre.length < 8796093022208 by omega) ih))))
theorem tx_total (c : Int) {many : Nat} (hm : many ≤ 2000) {s : List Int} (hs : Byt s) (hl : s.length ≤ 500000) (bad : Bool) : ∃ r : AnT, Ev (fun k => q_reader_texts.f k s bad c (many : Int)) r := by
 have hv := qct_val s bad
 have hle := qct_le s bad
 have stop : Ev (fun k => q_reader_texts.j1 k (many : Int) [] (qct s bad).1 true (qct s bad).2.1 (qct s bad).2.2) (([], (qct s bad).2.1, true) : AnT) :=
  Ev.step (fun k => by rw [q_reader_texts.j1]) (ev_pos rfl (ev_some _))
 unfold q_reader_texts.f
 by_cases h1 : c = 1
 ·obtain ⟨r, hr⟩ := tx0_total hm many [] s bad (by simp) (by simp) hs hl
  exact ⟨r, ev_pos h1 hr⟩
 ·by_cases hb : (qct s bad).2.2 = true
  ·exact ⟨_, ev_neg h1 (Ev.bind (qct_ev bad hs) (ev_pos hb stop))⟩
  ·by_cases h2 : (qct s bad).1 < 1
   ·exact ⟨_, ev_neg h1 (Ev.bind (qct_ev bad hs) (ev_neg hb (ev_pos h2 stop)))⟩
   ·by_cases h3 : (qct s bad).1 > (many : Int)
    ·exact ⟨_, ev_neg h1 (Ev.bind (qct_ev bad hs) (ev_neg hb (ev_neg h2 (ev_pos h3 stop))))⟩
    ·obtain ⟨n, hn⟩ := Int.eq_ofNat_of_zero_le hv.1
     have hj : ∃ r : AnT, Ev (fun k => q_reader_texts.j1 k (many : Int) [] (qct s bad).1 (c != 3) (qct s bad).2.1 (qct s bad).2.2) r := by
      cases hc3 : (c != 3) with
      | true => exact ⟨_, stop⟩
      | false =>
       obtain ⟨r, hr⟩ := tx1_total hm (n := n) (by omega) (by omega) n [] (mk8 []) (qct s bad).2.1 (qct s bad).2.2 (by simp) (by rw [mk8_size]; simp; omega) (qct_byt hs)
       refine ⟨r, Ev.step (fun k => by rw [q_reader_texts.j1]) (ev_neg (by simp) ?_)⟩
       rw [hn]
       exact hr
     obtain ⟨r, hr⟩ := hj
     exact ⟨r, ev_neg h1 (Ev.bind (qct_ev bad hs) (ev_neg hb (ev_neg h2 (ev_neg h3 hr))))⟩
theorem tx_round {c : Nat} (hc : c = 1 ∨ c = 3) {l : List ByteArray} (h : OkT l) (hne : l ≠ []) : Ev (fun k => q_reader_texts.f k (if c = 1 then txs l else dicT l) false (c : Int) (l.length : Int)) (l, [], false) := by
 have hn := h.1
 unfold q_reader_texts.f
 rcases hc with rfl | rfl
 ·rw [if_pos rfl]
  refine ev_pos rfl ?_
  have := tx0_round l [] (by simpa using hn) (fun s hs => cv_size (h.2 s hs))
  simpa using this
 ·rw [if_neg (by omega)]
  refine ev_neg (by omega) ?_
  have hs := dsT_sorted l
  have hd := dsT_len l
  have hp := dsT_ne hne
  have hD := dsT_size h
  have hby := dicT_byt l
  have e : dicT l = cnt (dsT l).length ++ (preT [] (dsT l) ++ pb (allbits (plsT l) (Lib.bitLen ((dsT l).length - 1)))) := by unfold dicT; rw [List.append_assoc]
  have hb2 : Byt (preT [] (dsT l) ++ pb (allbits (plsT l) (Lib.bitLen ((dsT l).length - 1)))) := fun x hx => hby x (by rw [e]; exact List.mem_append_right _ hx)
  have hlt := qct_cnt (n := (dsT l).length) (preT [] (dsT l) ++ pb (allbits (plsT l) (Lib.bitLen ((dsT l).length - 1)))) (by omega)
  rw [← e] at hlt
  have hbl := bitLen_lt' ((dsT l).length - 1) (by omega)
  have hplr : ∀ v ∈ plsT l, 0 ≤ v ∧ v < 2 ^ Lib.bitLen ((dsT l).length - 1) := by
   intro v hv
   have h1 := plsT_range v hv
   have h2 : (((dsT l).length - 1 : Nat) : Int) < (2 : Int) ^ Lib.bitLen ((dsT l).length - 1) := by exact_mod_cast hbl
   exact ⟨h1.1, by omega⟩
  have hups := ups_pb hplr
  rw [plsT_len] at hups
  refine Ev.bind (qct_ev false hby) ?_
  rw [hlt]
  dsimp only
  refine ev_neg (by simp) (ev_neg (by omega) (ev_neg (by omega) ?_))
  rw [show ((((3 : Nat) : Int)) != 3) = false by rfl]
  refine Ev.step (fun k => by rw [q_reader_texts.j1]) (ev_neg (by simp) ?_)
  have hj3 : ∀ x, Ev (fun k => q_reader_texts.j3 k (l.length : Int) [] ((dsT l).length : Int) ((dsT l).map mk8) x false (pb (allbits (plsT l) (Lib.bitLen ((dsT l).length - 1)))) false) (l, [], false) := by
   intro x
   have := (tx3_end (many := l.length) hn (n := (dsT l).length) (by omega) (by omega) (D := (dsT l).map mk8) (by simp) x (s := pb (allbits (plsT l) (Lib.bitLen ((dsT l).length - 1)))) (fun x hx => hb2 x (List.mem_append_right _ hx))).2 (by rw [pb_len, allbits_len, plsT_len]) ?_
   ·rw [hups] at this
    have hmap : (plsT l).map (rdOf ByteArray.empty ((dsT l).map mk8)) = l := by
     unfold plsT
     rw [List.map_map]
     have : ∀ s ∈ l, (rdOf ByteArray.empty ((dsT l).map mk8) ∘ fun s : ByteArray => (plT (dsT l) s.data.toList : Int)) s = s := by
      intro s hs'
      simp only [Function.comp]
      rw [rdTm, plT_get ((hs.2 _).2 (List.mem_map.2 ⟨s, hs', rfl⟩)), mk8_of]
     rw [List.map_congr_left this]
     simp
    rw [hmap] at this
    exact this
   ·rw [hups]
    exact fun q hq => (plsT_range q hq).2
  exact tx1_round (many := l.length) (n := (dsT l).length) (by omega) (by omega) (pb (allbits (plsT l) (Lib.bitLen ((dsT l).length - 1)))) (l, [], false) (dsT l) [] [] (by simp) hD (by simp) hb2 (by simpa using hj3)
/-- What DecodeTexts may answer of bytes that are not too many. -/
def DTin (b : List Int) (r : List ByteArray × Int) : Prop := r = ([], 3) ∨ ∃ c l, (c = 1 ∨ c = 3) ∧ OkT l ∧ encT c l = b ∧ r = (l, 0)
theorem rj1T (b : List Int) (c : Int) (o : List ByteArray) (s : List Int) (bad : Bool) : ∃ r, Ev (fun k => q_DecodeTexts.j1 k b c o s bad) r ∧ DTin b r := by
 cases bad with
 | true => exact ⟨_, Ev.step (fun k => by rw [q_DecodeTexts.j1]) (ev_pos rfl (ev_some _)), Or.inl rfl⟩
 | false =>
  have head : ∀ r, Ev (fun k => if (encTA c o).2 = 0 then ((s_Equalb.f k (encTA c o).1 b).bind fun t564 => (if t564 = true then (some (o, 0)) else (some (([] : List ByteArray), 3)))) else (some (([] : List ByteArray), 3))) r → Ev (fun k => q_DecodeTexts.j1 k b c o s false) r := by
   intro r h
   exact Ev.step (fun k => by rw [q_DecodeTexts.j1]) (ev_neg (by simp) (Ev.bind (rEncodeT_ev c o) h))
  by_cases hc : c = 1 ∨ c = 3
  ·by_cases h0 : chkT o = 0
   ·have ho := chkT_ok.1 h0
    have hl := encT_len (c := c.toNat) ho
    rw [show encTA c o = (encT c.toNat o, 0) by unfold encTA; rw [if_pos hc, if_pos h0]] at head
    have he := eqB_ev (x := encT c.toNat o) (y := b) (by omega)
    by_cases hb : encT c.toNat o = b
    ·exact ⟨(o, 0), head _ (ev_pos rfl (Ev.bind he (ev_pos (by simpa using hb) (ev_some _)))), Or.inr ⟨c.toNat, o, by omega, ho, hb, rfl⟩⟩
    ·exact ⟨([], 3), head _ (ev_pos rfl (Ev.bind he (ev_neg (by simpa using hb) (ev_some _)))), Or.inl rfl⟩
   ·rw [show encTA c o = ([], chkT o) by unfold encTA; rw [if_pos hc, if_neg h0]] at head
    exact ⟨([], 3), head _ (ev_neg h0 (ev_some _)), Or.inl rfl⟩
  ·rw [show encTA c o = ([], 4) by unfold encTA; rw [if_neg hc]] at head
   exact ⟨([], 3), head _ (ev_neg (by simp) (ev_some _)), Or.inl rfl⟩
theorem rDecT_total {b : List Int} (hb : Byt b) (hl : ¬ b.length > 500000) : ∃ r, Ev (fun k => q_DecodeTexts.f k b) r ∧ DTin b r := by
 have hv := qct_val b.tail (false || b.isEmpty)
 have hle := qct_le b.tail (false || b.isEmpty)
 have htl : b.tail.length ≤ b.length := by simp
 have stop : Ev (fun k => q_DecodeTexts.j0 k b (b.headD 0) (qct b.tail (false || b.isEmpty)).1 true (qct b.tail (false || b.isEmpty)).2.1 (qct b.tail (false || b.isEmpty)).2.2) ([], 3) :=
  Ev.step (fun k => by rw [q_DecodeTexts.j0]) (ev_pos rfl (ev_some _))
 have head : ∀ r, Ev (fun k => if (qct b.tail (false || b.isEmpty)).2.2 = true then (q_DecodeTexts.j0 k b (b.headD 0) (qct b.tail (false || b.isEmpty)).1 true (qct b.tail (false || b.isEmpty)).2.1 (qct b.tail (false || b.isEmpty)).2.2) else (q_DecodeTexts.j0 k b (b.headD 0) (qct b.tail (false || b.isEmpty)).1 (decide ((qct b.tail (false || b.isEmpty)).1 > 2000)) (qct b.tail (false || b.isEmpty)).2.1 (qct b.tail (false || b.isEmpty)).2.2)) r → Ev (fun k => q_DecodeTexts.f k b) r := by
  intro r h
  unfold q_DecodeTexts.f
  refine ev_neg (by omega) ?_
  rw [rbyteB b false hb]
  exact Ev.bind (ev_some _) (Ev.bind (qct_ev _ hb.tail) h)
 by_cases h1 : (qct b.tail (false || b.isEmpty)).2.2 = true
 ·exact ⟨_, head _ (ev_pos h1 stop), Or.inl rfl⟩
 ·by_cases h2 : (qct b.tail (false || b.isEmpty)).1 > 2000
  ·rw [show decide ((qct b.tail (false || b.isEmpty)).1 > 2000) = true by simpa using h2] at head
   exact ⟨_, head _ (ev_neg h1 stop), Or.inl rfl⟩
  ·rw [show decide ((qct b.tail (false || b.isEmpty)).1 > 2000) = false by simpa using h2] at head
   obtain ⟨many, hm⟩ := Int.eq_ofNat_of_zero_le hv.1
   have hj : ∃ r, Ev (fun k => q_DecodeTexts.j0 k b (b.headD 0) (qct b.tail (false || b.isEmpty)).1 false (qct b.tail (false || b.isEmpty)).2.1 (qct b.tail (false || b.isEmpty)).2.2) r ∧ DTin b r := by
    by_cases h0 : (qct b.tail (false || b.isEmpty)).1 > 0
    ·obtain ⟨v, hv2⟩ := tx_total (b.headD 0) (many := many) (by omega) (s := (qct b.tail (false || b.isEmpty)).2.1) (qct_byt hb.tail) (by omega) (qct b.tail (false || b.isEmpty)).2.2
     obtain ⟨r, hr, ho⟩ := rj1T b (b.headD 0) v.1 v.2.1 v.2.2
     refine ⟨r, Ev.step (fun k => by rw [q_DecodeTexts.j0]) (ev_neg (by simp) (ev_pos h0 ?_)), ho⟩
     rw [hm]
     exact Ev.bind hv2 hr
    ·obtain ⟨r, hr, ho⟩ := rj1T b (b.headD 0) [] (qct b.tail (false || b.isEmpty)).2.1 (qct b.tail (false || b.isEmpty)).2.2
     exact ⟨r, Ev.step (fun k => by rw [q_DecodeTexts.j0]) (ev_neg (by simp) (ev_neg h0 hr)), ho⟩
   obtain ⟨r, hr, ho⟩ := hj
   exact ⟨r, head r (ev_neg h1 hr), ho⟩
theorem rDecT_round {c : Nat} (hc : c = 1 ∨ c = 3) {l : List ByteArray} (h : OkT l) : Ev (fun k => q_DecodeTexts.f k (encT c l)) (l, 0) := by
 have hb := encT_byt (c := c) (by omega) l
 have hl := encT_len (c := c) h
 have hn := h.1
 have htl : (encT c l).tail = cnt l.length ++ (if l = [] then [] else if c = 1 then txs l else dicT l) := by simp [encT]
 have hhd : (encT c l).headD 0 = (c : Int) := by simp [encT]
 have hem : (encT c l).isEmpty = false := by simp [encT]
 have ht : Byt (cnt l.length ++ (if l = [] then [] else if c = 1 then txs l else dicT l)) := by rw [← htl]; exact hb.tail
 have hct := qct_cnt (n := l.length) (if l = [] then [] else if c = 1 then txs l else dicT l) (by omega)
 have ean : encTA (c : Int) l = (encT c l, 0) := by
  unfold encTA
  rw [if_pos (by omega), if_pos (chkT_ok.2 h), Int.toNat_natCast]
 have fin : ∀ s, Ev (fun k => q_DecodeTexts.j1 k (encT c l) (c : Int) l s false) (l, 0) := by
  intro s
  refine Ev.step (fun k => by rw [q_DecodeTexts.j1]) (ev_neg (by simp) (Ev.bind (rEncodeT_ev (c : Int) l) ?_))
  rw [ean]
  exact ev_pos rfl (Ev.bind (eqB_ev (by show (encT c l).length ≤ _; omega)) (ev_pos (by simp) (ev_some _)))
 unfold q_DecodeTexts.f
 refine ev_neg (by omega) ?_
 rw [rbyteB _ false hb, htl, hhd, hem]
 refine Ev.bind (ev_some _) (Ev.bind (qct_ev _ ht) ?_)
 rw [show (false || false) = false from rfl, hct]
 dsimp only
 refine ev_neg (by simp) ?_
 rw [show decide ((l.length : Int) > 2000) = false by simp; omega]
 refine Ev.step (fun k => by rw [q_DecodeTexts.j0]) (ev_neg (by simp) ?_)
 by_cases hz : l = []
 ·refine ev_neg (by rw [hz]; simp) ?_
  have := fin (if l = [] then [] else if c = 1 then txs l else dicT l)
  rw [hz] at this ⊢
  exact this
 ·have hp := List.length_pos_iff.2 hz
  refine ev_pos (by omega) ?_
  rw [if_neg hz]
  exact Ev.bind (tx_round hc h hz) (fin [])
/-- What decoding may answer. -/
def DTA (r : List ByteArray × Int) : Prop := (r.2 = 0 ∧ OkT r.1) ∨ (r.2 ≠ 0 ∧ r.1 = [])
theorem both_decT {b : List Int} (hb : Byt b) : ∃ r, Ev (fun k => e_DecodeTexts.f k b) r ∧ Ev (fun k => q_DecodeTexts.f k b) r ∧ DTA r := by
 by_cases hl : b.length > 500000
 ·exact ⟨([], 2), by unfold e_DecodeTexts.f; exact ev_pos (by omega) (ev_some _), by unfold q_DecodeTexts.f; exact ev_pos (by omega) (ev_some _), Or.inr ⟨by simp, rfl⟩⟩
 ·obtain ⟨q, hq, hoq⟩ := rDecT_total hb hl
  obtain ⟨r, hr, ho⟩ := decT_total hb
  rcases ho with rfl | ⟨c, l, hc, h, rfl, rfl⟩
  ·have hr3 : Ev (fun k => e_DecodeTexts.f k b) ([], 3) := by unfold e_DecodeTexts.f; exact ev_neg (by omega) (Ev.bind hr (ev_neg (by simp) (ev_some _)))
   rcases hoq with rfl | ⟨c, l, hc, h, rfl, rfl⟩
   ·exact ⟨_, hr3, hq, Or.inr ⟨by simp, rfl⟩⟩
   ·exact ⟨_, DecodeT_round hc h, hq, Or.inl ⟨rfl, h⟩⟩
  ·exact ⟨_, DecodeT_round hc h, rDecT_round hc h, Or.inl ⟨rfl, h⟩⟩
def tA (r : List ByteArray × Int) (i : Int) : ByteArray × Int := if r.2 = 0 then (if 0 ≤ i ∧ i < (r.1.length : Int) then (rdOf ByteArray.empty r.1 i, 0) else (⟨#[]⟩, 1)) else (⟨#[]⟩, r.2)
theorem tA_e {b : List Int} {r : List ByteArray × Int} (h : Ev (fun k => e_DecodeTexts.f k b) r) (hr : DTA r) (i : Int) : Ev (fun k => e_TextAt.f k b i) (tA r i) := by
 unfold e_TextAt.f
 refine Ev.bind h ?_
 rcases hr with ⟨h0, ho⟩ | ⟨h0, _⟩
 ·have hn := ho.1
  rw [show tA r i = (if 0 ≤ i ∧ i < (r.1.length : Int) then (rdOf ByteArray.empty r.1 i, 0) else (⟨#[]⟩, 1)) from if_pos h0]
  refine ev_pos h0 ?_
  rw [w64 (n := (r.1.length : Int) - 1) (by omega) (by omega), in_eq]
  refine Ev.bind (ev_some _) ?_
  by_cases hi : 0 ≤ i ∧ i < (r.1.length : Int)
  ·rw [if_pos hi]
   exact ev_pos (by simp; omega) (ev_pos hi.1 (ev_pos hi.2 (ev_some _)))
  ·rw [if_neg hi]
   exact ev_neg (by simp; omega) (ev_some _)
 ·exact ev_neg h0 (ev_eq (ev_some _) (if_neg h0).symm)
theorem tA_r {b : List Int} {r : List ByteArray × Int} (h : Ev (fun k => q_DecodeTexts.f k b) r) (i : Int) : Ev (fun k => q_TextAt.f k b i) (tA r i) := by
 unfold q_TextAt.f
 refine Ev.bind h ?_
 by_cases h0 : r.2 = 0
 ·rw [show tA r i = (if 0 ≤ i ∧ i < (r.1.length : Int) then (rdOf ByteArray.empty r.1 i, 0) else (⟨#[]⟩, 1)) from if_pos h0]
  refine ev_pos h0 ?_
  by_cases h1 : i < 0
  ·exact ev_eq (ev_pos h1 (ev_some _)) (if_neg (fun h => by omega)).symm
  ·refine ev_neg h1 ?_
   by_cases h2 : i ≥ (r.1.length : Int)
   ·exact ev_eq (ev_pos h2 (ev_some _)) (if_neg (fun h => by omega)).symm
   ·exact ev_eq (ev_neg h2 (ev_pos (show 0 ≤ i by omega) (ev_pos (show i < (r.1.length : Int) by omega) (ev_some _)))) (if_pos (by omega)).symm
 ·exact ev_neg h0 (ev_eq (ev_some _) (if_neg h0).symm)
def wA (r : List ByteArray × Int) (lo hi : ByteArray) : List Int × Int := if r.2 = 0 then (if Op.bytesLess hi.toList lo.toList = true then ([], 8) else (whT lo hi r.1 r.1.length, 0)) else ([], r.2)
theorem wA_e {b : List Int} {r : List ByteArray × Int} (h : Ev (fun k => e_DecodeTexts.f k b) r) (hr : DTA r) (lo hi : ByteArray) : Ev (fun k => e_WhereText.f k b lo hi) (wA r lo hi) := by
 unfold e_WhereText.f
 refine Ev.bind h ?_
 rcases hr with ⟨h0, ho⟩ | ⟨h0, _⟩
 ·have hn := ho.1
  rw [show wA r lo hi = (if Op.bytesLess hi.toList lo.toList = true then ([], 8) else (whT lo hi r.1 r.1.length, 0)) from if_pos h0]
  refine ev_pos h0 ?_
  generalize r.1 = l at hn ⊢
  by_cases hlh : Op.bytesLess hi.toList lo.toList = true
  ·exact ev_eq (ev_pos hlh (ev_some _)) (if_pos hlh).symm
  ·rw [show (if Op.bytesLess hi.toList lo.toList = true then (([] : List Int), (8 : Int)) else (whT lo hi l l.length, 0)) = (whT lo hi l l.length, 0) from if_neg hlh]
   refine ev_neg hlh ?_
   have key : ∀ d i, i ≤ l.length → l.length - i ≤ d → Ev (fun k => e_WhereText.l0 k lo hi l (whT lo hi l i) (l.length : Int) (i : Int)) (whT lo hi l l.length, 0) := by
    intro d
    induction d with
    | zero =>
     intro i hi' hd
     refine Ev.step (fun k => by rw [e_WhereText.l0]) (ev_neg (by omega) ?_)
     rw [show i = l.length by omega]
     exact ev_some _
    | succ d ih =>
     intro i hi' hd
     refine Ev.step (fun k => by rw [e_WhereText.l0]) ?_
     by_cases hlt : i < l.length
     ·have hw := whT_len lo hi l i
      have hs := whT_succ lo hi l i
      have hih := ih (i + 1) (by omega) (by omega)
      refine ev_pos (by omega) (ev_pos (by omega) (ev_pos (by omega) ?_))
      rw [rdTe, w64 (by omega) (by omega)]
      by_cases h1 : Op.bytesLess (l.getD i ByteArray.empty).toList lo.toList = true
      ·rw [if_neg (by unfold btw; rw [h1]; simp), List.append_nil] at hs
       rw [hs] at hih
       exact ev_pos h1 hih
      ·by_cases h2 : Op.bytesLess hi.toList (l.getD i ByteArray.empty).toList = true
       ·rw [if_neg (by unfold btw; rw [h2]; simp), List.append_nil] at hs
        rw [hs] at hih
        exact ev_neg h1 (ev_pos h2 hih)
       ·rw [if_pos (by unfold btw; rw [eq_false_of_ne_true h1, eq_false_of_ne_true h2]; rfl)] at hs
        rw [hs] at hih
        exact ev_neg h1 (ev_neg h2 (ev_pos (by omega) hih))
     ·refine ev_neg (by omega) ?_
      rw [show i = l.length by omega]
      exact ev_some _
   have := key l.length 0 (by omega) (by omega)
   simpa [whT] using this
 ·exact ev_neg h0 (ev_eq (ev_some _) (if_neg h0).symm)
theorem wA_r {b : List Int} {r : List ByteArray × Int} (h : Ev (fun k => q_DecodeTexts.f k b) r) (hr : DTA r) (lo hi : ByteArray) : Ev (fun k => q_WhereText.f k b lo hi) (wA r lo hi) := by
 unfold q_WhereText.f
 refine Ev.bind h ?_
 rcases hr with ⟨h0, ho⟩ | ⟨h0, _⟩
 ·have hn := ho.1
  rw [show wA r lo hi = (if Op.bytesLess hi.toList lo.toList = true then ([], 8) else (whT lo hi r.1 r.1.length, 0)) from if_pos h0]
  refine ev_pos h0 ?_
  generalize r.1 = l at hn ⊢
  by_cases hlh : Op.bytesLess hi.toList lo.toList = true
  ·exact ev_eq (ev_pos hlh (ev_some _)) (if_pos hlh).symm
  ·rw [show (if Op.bytesLess hi.toList lo.toList = true then (([] : List Int), (8 : Int)) else (whT lo hi l l.length, 0)) = (whT lo hi l l.length, 0) from if_neg hlh]
   refine ev_neg hlh ?_
   have key : ∀ d i, i ≤ l.length → l.length - i ≤ d → Ev (fun k => q_WhereText.l0 k lo hi l (whT lo hi l i) (l.length : Int) (i : Int)) (whT lo hi l l.length, 0) := by
    intro d
    induction d with
    | zero =>
     intro i hi' hd
     refine Ev.step (fun k => by rw [q_WhereText.l0]) (ev_neg (by omega) ?_)
     rw [show i = l.length by omega]
     exact ev_some _
    | succ d ih =>
     intro i hi' hd
     refine Ev.step (fun k => by rw [q_WhereText.l0]) ?_
     by_cases hlt : i < l.length
     ·have hw := whT_len lo hi l i
      have hs := whT_succ lo hi l i
      have hih := ih (i + 1) (by omega) (by omega)
      refine ev_pos (by omega) (ev_pos (by omega) (ev_pos (by omega) ?_))
      rw [rdTe, w64 (by omega) (by omega)]
      by_cases h1 : Op.bytesLess (l.getD i ByteArray.empty).toList lo.toList = true
      ·rw [if_neg (by unfold btw; rw [h1]; simp), List.append_nil] at hs
       rw [hs] at hih
       exact ev_pos h1 hih
      ·by_cases h2 : Op.bytesLess hi.toList (l.getD i ByteArray.empty).toList = true
       ·rw [if_neg (by unfold btw; rw [h2]; simp), List.append_nil] at hs
        rw [hs] at hih
        exact ev_neg h1 (ev_pos h2 hih)
       ·rw [if_pos (by unfold btw; rw [eq_false_of_ne_true h1, eq_false_of_ne_true h2]; rfl)] at hs
        rw [hs] at hih
        exact ev_neg h1 (ev_neg h2 (ev_pos (by omega) hih))
     ·refine ev_neg (by omega) ?_
      rw [show i = l.length by omega]
      exact ev_some _
   have := key l.length 0 (by omega) (by omega)
   simpa [whT] using this
 ·exact ev_neg h0 (ev_eq (ev_some _) (if_neg h0).symm)
theorem wA_len {r : List ByteArray × Int} (hr : DTA r) (lo hi : ByteArray) : (wA r lo hi).1.length ≤ 2000 := by
 unfold wA
 rcases hr with ⟨h0, ho⟩ | ⟨h0, _⟩
 ·rw [if_pos h0]
  split
  ·simp
  ·exact Nat.le_trans (whT_len _ _ _ _) ho.1
 ·rw [if_neg h0]
  simp
theorem encTA_len (c : Int) (l : List ByteArray) : (encTA c l).1.length ≤ 480000 := by
 unfold encTA
 split
 ·split
  ·rename_i h
   exact encT_len (chkT_ok.1 h)
  ·simp
 ·simp
theorem textsM_ev (c : Int) (l : List ByteArray) {b : List Int} (hb : Byt b) (i : Int) (lo hi : ByteArray) : Ev (fun k => lw.f k c l b i lo hi) true := by
 have h0 := encTA_len c l
 obtain ⟨r, h1, h2, h3⟩ := both_decT hb
 have hw := wA_len h3 lo hi
 have hr : r.1.length ≤ 100000 := by
  rcases h3 with ⟨_, h3⟩ | ⟨_, h3⟩
  ·have := h3.1; omega
  ·rw [h3]; simp
 have j3 : Ev (fun k => lw.j3 k b lo hi false) true :=
  Ev.step (fun k => by rw [lw.j3]) (ev_neg (by simp) (Ev.bind (wA_e h1 h3 lo hi) (Ev.bind (wA_r h2 h3 lo hi) (ev_pos rfl (Ev.bind (eqI_ev (x := (wA r lo hi).1) (by omega)) (ev_pos (show decide ((wA r lo hi).1 = (wA r lo hi).1) = true by simp) (Ev.bind awake_e (ev_some _))))))))
 have j2 : Ev (fun k => lw.j2 k b i lo hi false) true := by
  refine Ev.step (fun k => by rw [lw.j2]) (ev_neg (by simp) (Ev.bind (tA_e h1 h3 i) (Ev.bind (tA_r h2 i) (ev_pos rfl ?_))))
  rw [show ((tA r i).1.toList != (tA r i).1.toList) = false by simp]
  exact j3
 have j1 : Ev (fun k => lw.j1 k b i lo hi false) true :=
  Ev.step (fun k => by rw [lw.j1]) (ev_neg (by simp) (Ev.bind h1 (Ev.bind h2 (ev_pos rfl (Ev.bind (eqT_refl (l := r.1) hr) j2)))))
 have j0 : Ev (fun k => lw.j0 k l b i lo hi false) true := by
  refine Ev.step (fun k => by rw [lw.j0]) (ev_neg (by simp) (Ev.bind (BestT_ev l) (Ev.bind (rBestT_ev l) (ev_pos rfl ?_))))
  rw [show ((bestTA l).1 != (bestTA l).1) = false by simp]
  exact j1
 unfold lw.f
 refine Ev.bind (EncodeT_ev c l) (Ev.bind (rEncodeT_ev c l) (ev_pos rfl (Ev.bind (eqB_ev (x := (encTA c l).1) (by omega)) ?_)))
 rw [show (!decide ((encTA c l).1 = (encTA c l).1)) = false by simp]
 exact j0
theorem textsM_pure (c : Int) (l : List ByteArray) (b : List Int) (i : Int) (lo hi : ByteArray) (hc : (Lit.int .i64 c).wf = true) (h0 : l.length ≤ maxLen ∧ ∀ x ∈ l, (fun s : ByteArray => s.size ≤ maxLen) x) (h1 : b.length ≤ maxLen ∧ ∀ x ∈ b, (fun n : Int => (Lit.int .u8 n).wf = true) x) (y1 : b.length * 1 ≤ 140737488351232) (hi1 : (Lit.int .i64 i).wf = true) (g0 : lo.size ≤ 140737488351232) (g1 : hi.size ≤ 140737488351232) : ∃ k, lw.f k c l b i lo hi = some true := by
 obtain ⟨K, h⟩ := textsM_ev c l (byt_of_wf h1.2) i lo hi
 exact ⟨K, h K (Nat.le_refl _)⟩
end Go.Proofs.Ythhdihnaicggiaa.D
