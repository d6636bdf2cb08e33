/- What these functions answer, in plain Lean. No conditions beyond those in each theorem. -/
import Derived.Test.YthhdihnaicggiaaKP3
import Derived.Laws.BitsLemmas
import Derived.Lib.Bytes
import Derived.Lib.ItoaNum
namespace Go.Proofs.Ythhdihnaicggiaa.K
open Go.RowKit Go.Proofs.YthhdihnaicggiaaW.PrintWords Go.Proofs.YthhdihnaicggiaaW.PrintLast Go.Proofs.YthhdihnaicggiaaW.PrintMore
set_option linter.unusedVariables false
set_option linter.unusedSimpArgs false
theorem ev_uniq {α : Type} {g : Nat → Option α} {a b : α} (h : Ev g a) (h' : Ev g b) : a = b := by
 obtain ⟨K, h⟩ := h
 obtain ⟨K', h'⟩ := h'
 have h1 := h (max K K') (by omega)
 have h2 := h' (max K K') (by omega)
 exact Option.some.inj (h1.symm.trans h2)
theorem ev_pos {α : Type} {c : Prop} [Decidable c] {A B : Nat → Option α} {r : α} (hc : c) (h : Ev A r) : Ev (fun k => if c then A k else B k) r := h.congr (fun k => by rw [if_pos hc])
theorem ev_neg {α : Type} {c : Prop} [Decidable c] {A B : Nat → Option α} {r : α} (hc : ¬ c) (h : Ev B r) : Ev (fun k => if c then A k else B k) r := h.congr (fun k => by rw [if_neg hc])
theorem ev_some {α : Type} (r : α) : Ev (fun _ => some r) r := Ev.now r
theorem ev_eq {α : Type} {g : Nat → Option α} {a b : α} (h : Ev g a) (e : a = b) : Ev g b := e ▸ h
theorem w64 {n : Int} (h0 : -9223372036854775808 ≤ n) (h1 : n ≤ 9223372036854775807) : wrap64 n = n := by unfold wrap64; omega
theorem u64w (n : Int) : IntKind.u64.wrap n = n % 18446744073709551616 := by simp [IntKind.wrap, IntKind.bits, IntKind.signed]
theorem and127 {x : Int} (h0 : 0 ≤ x) (h1 : x < 9223372036854775808) : Go.bits .and .i64 x 127 = x % 128 :=
 bits_mask .i64 63 (by decide) (fun n a b => by rw [IntKind.wrap_i64]; omega) 7 (by decide) x h0 h1
theorem and127u {x : Int} (h0 : 0 ≤ x) (h1 : x < 18446744073709551616) : Go.bits .and .u64 x 127 = x % 128 :=
 bits_mask .u64 64 (by decide) (fun n a b => by rw [u64w]; omega) 7 (by decide) x h0 h1
theorem or128u {x : Int} (h0 : 0 ≤ x) (h1 : x < 128) : Go.bits .or .u64 x 128 = x + 128 := by
 obtain ⟨a, rfl⟩ := Int.eq_ofNat_of_zero_le h0
 have ha : a < 2 ^ 7 := by omega
 have := (bits_nat .u64 64 (by decide) (fun n a b => by rw [u64w]; omega) a 128 (by omega) (by decide)).2
 have h2 : 128 + a = 128 ||| a := by
  have := Nat.two_pow_add_eq_or_of_lt ha 1
  simpa using this
 rw [show ((128 : Int)) = ((128 : Nat) : Int) from rfl, this, Nat.or_comm, ← h2]
 omega
theorem or128i {x : Int} (h0 : 0 ≤ x) (h1 : x < 128) : Go.bits .or .i64 x 128 = x + 128 := by
 obtain ⟨a, rfl⟩ := Int.eq_ofNat_of_zero_le h0
 have ha : a < 2 ^ 7 := by omega
 have := (bits_nat .i64 63 (by decide) (fun n a b => by rw [IntKind.wrap_i64]; omega) a 128 (by omega) (by decide)).2
 have h2 : 128 + a = 128 ||| a := by
  have := Nat.two_pow_add_eq_or_of_lt ha 1
  simpa using this
 rw [show ((128 : Int)) = ((128 : Nat) : Int) from rfl, this, Nat.or_comm, ← h2]
 omega
/-- A count's bytes. -/
def cnt (n : Nat) : List Int := if h : n > 127 then ((n % 128 + 128 : Nat) : Int) :: cnt (n / 128) else [(n : Int)]
termination_by n
decreasing_by omega
theorem cnt_big {n : Nat} (h : n > 127) : cnt n = ((n % 128 + 128 : Nat) : Int) :: cnt (n / 128) := by rw [cnt]; simp [h]
theorem cnt_small {n : Nat} (h : ¬ n > 127) : cnt n = [(n : Int)] := by rw [cnt]; simp [h]
theorem cnt_pos (n : Nat) : 0 < (cnt n).length := by
 by_cases h : n > 127
 ·rw [cnt_big h]; simp
 ·rw [cnt_small h]; simp
theorem cnt_len (m : Nat) : ∀ n, n < 128 ^ (m + 1) → (cnt n).length ≤ m + 1 := by
 induction m with
 | zero =>
  intro n hn
  rw [cnt_small (by omega)]
  simp
 | succ m ih =>
  intro n hn
  by_cases h : n > 127
  ·rw [cnt_big h, List.length_cons]
   have : n / 128 < 128 ^ (m + 1) := Nat.div_lt_of_lt_mul (by rw [Nat.pow_succ, Nat.mul_comm] at hn; exact hn)
   have := ih _ this
   omega
  ·rw [cnt_small h]; simp
theorem cnt_len10 {n : Nat} (h : n < 18446744073709551616) : (cnt n).length ≤ 10 := cnt_len 9 n (Nat.lt_of_lt_of_le h (by decide))
theorem cnt_byte (n : Nat) : ∀ x ∈ cnt n, 0 ≤ x ∧ x ≤ 255 := by
 induction n using Nat.strongRecOn with
 | _ n ih =>
  by_cases h : n > 127
  ·rw [cnt_big h]
   intro x hx
   rcases List.mem_cons.1 hx with rfl | hx
   ·omega
   ·exact ih (n / 128) (by omega) x hx
  ·rw [cnt_small h]
   intro x hx
   rw [List.mem_singleton.1 hx]
   omega
theorem count_l0 (m : Nat) : ∀ (n : Nat) (l : List Int), n < 128 ^ (m + 1) → n < 18446744073709551616 → l.length + m + 1 ≤ 140737488355328 → Ev (fun k => e_count.l0 k l (n : Int)) (l ++ cnt n) := by
 induction m with
 | zero =>
  intro n l hn hb hl
  refine Ev.step (fun k => by rw [e_count.l0]) ?_
  refine ev_neg (by omega) (ev_pos (by omega) ?_)
  rw [cnt_small (by omega), Int.emod_eq_of_lt (by omega) (by omega)]
  exact ev_some _
 | succ m ih =>
  intro n l hn hb hl
  refine Ev.step (fun k => by rw [e_count.l0]) ?_
  by_cases h : n > 127
  ·refine ev_pos (by omega) (ev_pos (by omega) ?_)
   rw [and127u (by omega) (by omega), or128u (by omega) (by omega), cnt_big h]
   have hd : n / 128 < 128 ^ (m + 1) := Nat.div_lt_of_lt_mul (by rw [Nat.pow_succ, Nat.mul_comm] at hn; exact hn)
   have e1 : ((n : Int) % 128 + 128) % 256 = ((n % 128 + 128 : Nat) : Int) := by omega
   have e2 : (n : Int) / 128 = ((n / 128 : Nat) : Int) := by omega
   rw [e1, e2]
   have := ih (n / 128) (l ++ [((n % 128 + 128 : Nat) : Int)]) hd (by omega) (by simp; omega)
   simpa using this
  ·refine ev_neg (by omega) (ev_pos (by omega) ?_)
   rw [cnt_small h, Int.emod_eq_of_lt (by omega) (by omega)]
   exact ev_some _
theorem count_ev {n : Nat} {l : List Int} (hn : n < 18446744073709551616) (hl : l.length ≤ 140737488000000) : Ev (fun k => e_count.f k l (n : Int)) (l ++ cnt n) :=
 count_l0 9 n l (Nat.lt_of_lt_of_le hn (by decide)) hn (by omega)
theorem rcount_l0 (m : Nat) : ∀ (n : Nat) (l : List Int), n < 128 ^ (m + 1) → n < 9223372036854775808 → l.length + m + 1 ≤ 140737488355328 → Ev (fun k => q_count.l0 k (n : Int) l) (l ++ cnt n) := by
 induction m with
 | zero =>
  intro n l hn hb hl
  refine Ev.step (fun k => by rw [q_count.l0]) ?_
  refine ev_neg (by omega) (ev_pos (by omega) ?_)
  rw [cnt_small (by omega), Int.emod_eq_of_lt (by omega) (by omega)]
  exact ev_some _
 | succ m ih =>
  intro n l hn hb hl
  refine Ev.step (fun k => by rw [q_count.l0]) ?_
  by_cases h : n > 127
  ·refine ev_pos (by omega) (ev_pos (by omega) ?_)
   rw [and127 (by omega) (by omega), or128i (by omega) (by omega), cnt_big h]
   have hd : n / 128 < 128 ^ (m + 1) := Nat.div_lt_of_lt_mul (by rw [Nat.pow_succ, Nat.mul_comm] at hn; exact hn)
   have e1 : ((n : Int) % 128 + 128) % 256 = ((n % 128 + 128 : Nat) : Int) := by omega
   have e2 : (n : Int) / 128 = ((n / 128 : Nat) : Int) := by omega
   rw [e1, e2]
   have := ih (n / 128) (l ++ [((n % 128 + 128 : Nat) : Int)]) hd (by omega) (by simp; omega)
   simpa using this
  ·refine ev_neg (by omega) (ev_pos (by omega) ?_)
   rw [cnt_small h, Int.emod_eq_of_lt (by omega) (by omega)]
   exact ev_some _
theorem rcount_ev {n : Nat} (hn : n < 9223372036854775808) : Ev (fun k => q_count.f k (n : Int)) (cnt n) := by
 have := rcount_l0 9 n [] (Nat.lt_of_lt_of_le hn (by decide)) hn (by simp)
 rw [List.nil_append] at this
 exact this
theorem rdD (x : List Int) (i : Nat) : rd x (i : Int) = x.getD i 0 := by simp [rd]
theorem getD_drop_head {α : Type} {x : List α} {i : Nat} {d : α} (h : i < x.length) : x.drop i = x.getD i d :: x.drop (i + 1) := by
 rw [List.drop_eq_getElem_cons h]
 simp [List.getD, h]
theorem bytesOf_inj : ∀ {a b : List Int}, (∀ x ∈ a, 0 ≤ x ∧ x ≤ 255) → (∀ x ∈ b, 0 ≤ x ∧ x ≤ 255) → Lib.bytesOf a = Lib.bytesOf b → a = b
 | [], [], _, _, _ => rfl
 | [], _ :: _, _, _, h => by simp [Lib.bytesOf] at h
 | _ :: _, [], _, _, h => by simp [Lib.bytesOf] at h
 | x :: a, y :: b, ha, hb, h => by
  simp only [Lib.bytesOf, List.map_cons, List.cons.injEq] at h
  have h1 := ha x (List.mem_cons_self ..)
  have h2 := hb y (List.mem_cons_self ..)
  have h3 := congrArg UInt8.toNat h.1
  simp only [UInt8.toNat_ofNat'] at h3
  have h4 := bytesOf_inj (fun z hz => ha z (List.mem_cons_of_mem _ hz)) (fun z hz => hb z (List.mem_cons_of_mem _ hz)) h.2
  rw [h4, show x = y by omega]
theorem bytesEqual_eq {a b : List Int} (ha : ∀ x ∈ a, 0 ≤ x ∧ x ≤ 255) (hb : ∀ x ∈ b, 0 ≤ x ∧ x ≤ 255) : bytes_Equal.f a b = some (decide (a = b)) := by
 unfold bytes_Equal.f
 rw [Lib.strOfNums_toList, Lib.strOfNums_toList]
 by_cases h : a = b
 ·subst h
  simp
 ·have h' : Lib.bytesOf a ≠ Lib.bytesOf b := fun h' => h (bytesOf_inj ha hb h')
  simp [h, h']
theorem eqB_l0 (x y : List Int) (hl : x.length = y.length) (hb : x.length ≤ 140737488355328) (d : Nat) : ∀ i : Nat, i ≤ x.length → x.length - i ≤ d → Ev (fun k => s_Equalb.l0 k x y (x.length : Int) (i : Int)) (decide (x.drop i = y.drop i)) := by
 induction d with
 | zero =>
  intro i hi hd
  refine Ev.step (fun k => by rw [s_Equalb.l0]) (ev_neg (by omega) ?_)
  rw [List.drop_eq_nil_of_le (show x.length ≤ i by omega), List.drop_eq_nil_of_le (show y.length ≤ i by omega)]
  exact ev_some _
 | succ d ih =>
  intro i hi hd
  refine Ev.step (fun k => by rw [s_Equalb.l0]) ?_
  by_cases h : i < x.length
  ·refine ev_pos (by omega) (ev_pos (by omega) (ev_pos (by omega) (ev_pos (by omega) ?_)))
   rw [rdD, rdD, getD_drop_head (d := 0) h, getD_drop_head (d := 0) (show i < y.length by omega)]
   by_cases e : x.getD i 0 = y.getD i 0
   ·refine ev_pos e ?_
    rw [w64 (by omega) (by omega)]
    exact ev_eq (ih (i + 1) (by omega) (by omega)) (by rw [e]; simp)
   ·exact ev_neg e (ev_eq (ev_some _) (by simp only [List.cons.injEq, e, false_and, decide_false]))
  ·refine ev_neg (by omega) ?_
   rw [List.drop_eq_nil_of_le (show x.length ≤ i by omega), List.drop_eq_nil_of_le (show y.length ≤ i by omega)]
   exact ev_some _
theorem eqB_ev {x y : List Int} (hb : x.length ≤ 140737488355328) : Ev (fun k => s_Equalb.f k x y) (decide (x = y)) := by
 unfold s_Equalb.f
 by_cases hl : x.length = y.length
 ·exact ev_pos (by omega) (eqB_l0 x y hl hb _ 0 (by omega) (Nat.le_refl _))
 ·exact ev_neg (by omega) (ev_eq (ev_some _) (by
   have : x ≠ y := fun h => hl (by rw [h])
   simp [this]))
/-- What a count's bytes are, read: at most m more of them, i read. -/
def rc : Nat → Nat → Int → List Int → Int × List Int × Bool
 | 0, _, _, s => (0, s, true)
 | _ + 1, _, v, [] => (v, [], true)
 | m + 1, i, v, b :: t => if b < 128 then (v + b % 128 * 128 ^ i, t, false) else rc m (i + 1) (v + b % 128 * 128 ^ i) t
theorem pw7 (i : Nat) : (128 : Nat) ^ i = 2 ^ (7 * i) := by rw [Nat.pow_mul]
theorem orshl {v b : Int} {i : Nat} (h0 : 0 ≤ v) (hv : v < 128 ^ i) (b0 : 0 ≤ b) (b1 : b ≤ 255) (hi : i < 8) : Go.bits .or .i64 v (shl .i64 (Go.bits .and .i64 b 127) ((7 * i : Nat) : Int)) = v + b % 128 * 128 ^ i := by
 rw [and127 b0 (by omega)]
 obtain ⟨a, rfl⟩ := Int.eq_ofNat_of_zero_le h0
 obtain ⟨c, hc⟩ := Int.eq_ofNat_of_zero_le (show 0 ≤ b % 128 by omega)
 have hc1 : c < 128 := by omega
 rw [hc]
 have ha : a < 2 ^ (7 * i) := by
  rw [← pw7]
  exact_mod_cast hv
 have hp : (2 : Nat) ^ (7 * i) ≤ 2 ^ 49 := Nat.pow_le_pow_right (by omega) (by omega)
 have hm : 2 ^ (7 * i) * c ≤ 2 ^ 49 * 127 := Nat.mul_le_mul hp (by omega)
 have e : shl .i64 ((c : Nat) : Int) ((7 * i : Nat) : Int) = ((2 ^ (7 * i) * c : Nat) : Int) := by
  unfold shl
  rw [Int.toNat_natCast, Nat.min_eq_left (by show 7 * i ≤ 64; omega)]
  have e2 : (c : Int) * 2 ^ (7 * i) = ((2 ^ (7 * i) * c : Nat) : Int) := by
   rw [Int.natCast_mul, Int.natCast_pow, Int.mul_comm]
   rfl
  rw [e2, IntKind.wrap_i64]
  omega
 rw [e, (bits_nat .i64 63 (by decide) (fun n a b => by rw [IntKind.wrap_i64]; omega) a _ (by omega) (by omega)).2, Nat.or_comm, ← Nat.two_pow_add_eq_or_of_lt ha c]
 rw [show (128 : Int) ^ i = ((2 ^ (7 * i) : Nat) : Int) by rw [← pw7, Int.natCast_pow]; rfl]
 rw [Int.natCast_add, Int.natCast_mul, Int.mul_comm, Int.add_comm]
theorem v_step {v b : Int} {i : Nat} (h0 : 0 ≤ v) (hv : v < 128 ^ i) : 0 ≤ v + b % 128 * 128 ^ i ∧ v + b % 128 * 128 ^ i < 128 ^ (i + 1) := by
 have hp : (0 : Int) < 128 ^ i := Int.pow_pos (by omega)
 have h1 : (0 : Int) ≤ b % 128 * 128 ^ i := Int.mul_nonneg (by omega) (by omega)
 have h2 : b % 128 * 128 ^ i ≤ 127 * 128 ^ i := Int.mul_le_mul_of_nonneg_right (by omega) (by omega)
 rw [Int.pow_succ]
 omega
theorem byte_nil : er_byte.f [] false = some (0, [], true) := by simp [er_byte.f, wrap64]
theorem byte_cons {b : Int} {t : List Int} (h0 : 0 ≤ b) (h1 : b ≤ 255) : er_byte.f (b :: t) false = some (b, t, false) := by
 simp [er_byte.f, w64 (show -9223372036854775808 ≤ b by omega) (show b ≤ 9223372036854775807 by omega)]
theorem orshl0 {v : Int} {i : Nat} (h0 : 0 ≤ v) (hv : v < 128 ^ i) (hi : i < 8) : Go.bits .or .i64 v (shl .i64 (Go.bits .and .i64 0 127) ((7 * i : Nat) : Int)) = v := by
 rw [orshl h0 hv (by omega) (by omega) hi]; simp
theorem rc_ev (m : Nat) : ∀ (i : Nat) (v : Int) (s : List Int), i + m = 8 → 0 ≤ v → v < 128 ^ i → (∀ x ∈ s, 0 ≤ x ∧ x ≤ 255) → Ev (fun k => er_count.l0 k v (i : Int) s false) (rc m i v s) := by
 induction m with
 | zero =>
  intro i v s hi h0 hv hs
  refine Ev.step (fun k => by rw [er_count.l0]) (ev_neg (by omega) ?_)
  exact ev_some _
 | succ m ih =>
  intro i v s hi h0 hv hs
  have e7 : wrap64 (7 * (i : Int)) = ((7 * i : Nat) : Int) := by rw [w64 (by omega) (by omega)]; omega
  refine Ev.step (fun k => by rw [er_count.l0]) (ev_pos (by omega) ?_)
  cases s with
  | nil =>
   rw [byte_nil, e7]
   refine Ev.bind (ev_some _) (ev_pos (by omega) (ev_pos (show (0 : Int) < 128 by omega) ?_))
   show Ev (fun k => some (Go.bits .or .i64 v (shl .i64 (Go.bits .and .i64 0 127) ((7 * i : Nat) : Int)), ([] : List Int), true)) (rc (m + 1) i v [])
   rw [orshl0 h0 hv (by omega)]
   exact ev_some _
  | cons b t =>
   have hb := hs b (List.mem_cons_self ..)
   rw [byte_cons hb.1 hb.2, e7]
   refine Ev.bind (ev_some _) (ev_pos (by omega) ?_)
   show Ev (fun k => if b < 128 then some (Go.bits .or .i64 v (shl .i64 (Go.bits .and .i64 b 127) ((7 * i : Nat) : Int)), t, false) else er_count.l0 k (Go.bits .or .i64 v (shl .i64 (Go.bits .and .i64 b 127) ((7 * i : Nat) : Int))) (wrap64 ((i : Int) + 1)) t false) (rc (m + 1) i v (b :: t))
   rw [orshl h0 hv hb.1 hb.2 (by omega)]
   by_cases hlt : b < 128
   ·exact ev_pos hlt (ev_eq (ev_some _) (by rw [rc, if_pos hlt]))
   ·refine ev_neg hlt ?_
    rw [rc, if_neg hlt, w64 (by omega) (by omega)]
    have hst := v_step (b := b) h0 hv
    exact ih (i + 1) _ t (by omega) hst.1 hst.2 (fun x hx => hs x (List.mem_cons_of_mem _ hx))
theorem icount_ev {s : List Int} (hs : ∀ x ∈ s, 0 ≤ x ∧ x ≤ 255) : Ev (fun k => er_count.f k s false) (rc 8 0 0 s) :=
 rc_ev 8 0 0 s rfl (by omega) (by simp) hs
theorem rc_val (m : Nat) : ∀ (i : Nat) (v : Int) (s : List Int), 0 ≤ v → v < 128 ^ i → 0 ≤ (rc m i v s).1 ∧ (rc m i v s).1 < 128 ^ (i + m) := by
 induction m with
 | zero =>
  intro i v s h0 hv
  rw [rc]
  exact ⟨by omega, Int.pow_pos (by omega)⟩
 | succ m ih =>
  intro i v s h0 hv
  have up : ∀ j : Nat, i ≤ j → (128 : Int) ^ i ≤ 128 ^ j := fun j hj => by
   have := Nat.pow_le_pow_right (n := 128) (by omega) hj
   exact_mod_cast this
  cases s with
  | nil =>
   rw [rc]
   have := up (i + (m + 1)) (by omega)
   exact ⟨h0, by show v < _; omega⟩
  | cons b t =>
   have hst := v_step (b := b) h0 hv
   rw [rc]
   split
   ·have h2 : (128 : Int) ^ (i + 1) ≤ 128 ^ (i + (m + 1)) := by
     have := Nat.pow_le_pow_right (n := 128) (by omega) (show i + 1 ≤ i + (m + 1) by omega)
     exact_mod_cast this
    exact ⟨hst.1, by show _ < _; omega⟩
   ·have := ih (i + 1) _ t hst.1 hst.2
    rw [show i + (m + 1) = i + 1 + m by omega]
    exact this
theorem rc_suf (m : Nat) : ∀ (i : Nat) (v : Int) (s : List Int), ∃ n, (rc m i v s).2.1 = s.drop n ∧ (0 < m → s ≠ [] → 0 < n ∧ (s.drop n).length < s.length) := by
 induction m with
 | zero => exact fun i v s => ⟨0, by simp [rc], fun h => by omega⟩
 | succ m ih =>
  intro i v s
  cases s with
  | nil => exact ⟨0, by simp [rc], fun _ h => absurd rfl h⟩
  | cons b t =>
   rw [rc]
   split
   ·exact ⟨1, by simp, fun _ _ => by simp⟩
   ·obtain ⟨n, h, _⟩ := ih (i + 1) (v + b % 128 * 128 ^ i) t
    exact ⟨n + 1, by rw [h]; simp, fun _ _ => by simp; omega⟩
theorem rc_cnt (m : Nat) : ∀ (i : Nat) (v : Int) (n : Nat) (rest : List Int), n < 128 ^ (m + 1) → rc (m + 1) i v (cnt n ++ rest) = (v + n * 128 ^ i, rest, false) := by
 induction m with
 | zero =>
  intro i v n rest hn
  rw [cnt_small (by omega), List.singleton_append, rc, if_pos (by omega), Int.emod_eq_of_lt (by omega) (by omega)]
 | succ m ih =>
  intro i v n rest hn
  by_cases h : n > 127
  ·rw [cnt_big h, List.cons_append, rc, if_neg (by omega)]
   have hd : n / 128 < 128 ^ (m + 1) := Nat.div_lt_of_lt_mul (by rw [Nat.pow_succ, Nat.mul_comm] at hn; exact hn)
   rw [ih (i + 1) _ (n / 128) rest hd]
   have e1 : ((n % 128 + 128 : Nat) : Int) % 128 = ((n % 128 : Nat) : Int) := by omega
   rw [e1, Int.pow_succ, ← Int.mul_assoc, Int.mul_right_comm, Int.add_assoc, ← Int.add_mul]
   rw [show ((n % 128 : Nat) : Int) + ((n / 128 : Nat) : Int) * 128 = (n : Int) by omega]
  ·rw [cnt_small h, List.singleton_append, rc, if_pos (by omega), Int.emod_eq_of_lt (by omega) (by omega)]
theorem rc_cnt8 {n : Nat} (rest : List Int) (hn : n < 72057594037927936) : rc 8 0 0 (cnt n ++ rest) = ((n : Int), rest, false) := by
 rw [rc_cnt 7 0 0 n rest (by omega)]
 simp
theorem rbyte_nil : q_reader_byte.f [] false = some (0, [], true) := by simp [q_reader_byte.f, wrap64]
theorem rbyte_cons {b : Int} {t : List Int} (h0 : 0 ≤ b) (h1 : b ≤ 255) : q_reader_byte.f (b :: t) false = some (b, t, false) := by
 simp [q_reader_byte.f, w64 (show -9223372036854775808 ≤ b by omega) (show b ≤ 9223372036854775807 by omega)]
theorem rrc_ev (m : Nat) : ∀ (i : Nat) (v : Int) (s : List Int), i + m = 8 → 0 ≤ v → v < 128 ^ i → (∀ x ∈ s, 0 ≤ x ∧ x ≤ 255) → Ev (fun k => q_reader_count.l0 k v ((7 * i : Nat) : Int) s false) (rc m i v s) := by
 induction m with
 | zero =>
  intro i v s hi h0 hv hs
  refine Ev.step (fun k => by rw [q_reader_count.l0]) (ev_neg (by omega) ?_)
  exact ev_some _
 | succ m ih =>
  intro i v s hi h0 hv hs
  refine Ev.step (fun k => by rw [q_reader_count.l0]) (ev_pos (by omega) ?_)
  cases s with
  | nil =>
   rw [rbyte_nil]
   refine Ev.bind (ev_some _) (ev_pos (by omega) (ev_pos (show (0 : Int) < 128 by omega) ?_))
   show Ev (fun k => some (Go.bits .or .i64 v (shl .i64 (Go.bits .and .i64 0 127) ((7 * i : Nat) : Int)), ([] : List Int), true)) (rc (m + 1) i v [])
   rw [orshl0 h0 hv (by omega)]
   exact ev_some _
  | cons b t =>
   have hb := hs b (List.mem_cons_self ..)
   rw [rbyte_cons hb.1 hb.2]
   refine Ev.bind (ev_some _) (ev_pos (by omega) ?_)
   show Ev (fun k => if b < 128 then some (Go.bits .or .i64 v (shl .i64 (Go.bits .and .i64 b 127) ((7 * i : Nat) : Int)), t, false) else if false = true then some (Go.bits .or .i64 v (shl .i64 (Go.bits .and .i64 b 127) ((7 * i : Nat) : Int)), t, false) else q_reader_count.l0 k (Go.bits .or .i64 v (shl .i64 (Go.bits .and .i64 b 127) ((7 * i : Nat) : Int))) (wrap64 (((7 * i : Nat) : Int) + 7)) t false) (rc (m + 1) i v (b :: t))
   rw [orshl h0 hv hb.1 hb.2 (by omega)]
   by_cases hlt : b < 128
   ·exact ev_pos hlt (ev_eq (ev_some _) (by rw [rc, if_pos hlt]))
   ·refine ev_neg hlt (ev_neg (by simp) ?_)
    rw [rc, if_neg hlt, w64 (by omega) (by omega), show ((7 * i : Nat) : Int) + 7 = ((7 * (i + 1) : Nat) : Int) by omega]
    have hst := v_step (b := b) h0 hv
    exact ih (i + 1) _ t (by omega) hst.1 hst.2 (fun x hx => hs x (List.mem_cons_of_mem _ hx))
theorem rcount2_ev {s : List Int} (hs : ∀ x ∈ s, 0 ≤ x ∧ x ≤ 255) : Ev (fun k => q_reader_count.f k s false) (rc 8 0 0 s) :=
 rrc_ev 8 0 0 s rfl (by omega) (by simp) hs
/-- A number's count. -/
def zig (v : Int) : Nat := if v < 0 then (2 * (-v) - 1).toNat else (2 * v).toNat
/-- A number's bytes. -/
def num (v : Int) : List Int := cnt (zig v)
theorem zig_neg {v : Int} (h : v < 0) : ((zig v : Nat) : Int) = 2 * (-v) - 1 := by unfold zig; rw [if_pos h]; omega
theorem zig_pos {v : Int} (h : ¬ v < 0) : ((zig v : Nat) : Int) = 2 * v := by unfold zig; rw [if_neg h]; omega
theorem zig_lt {v : Int} (h0 : -4000000000000000 ≤ v) (h1 : v ≤ 4000000000000000) : zig v < 72057594037927936 := by unfold zig; split <;> omega
theorem num_len {v : Int} (h0 : -4000000000000000 ≤ v) (h1 : v ≤ 4000000000000000) : (num v).length ≤ 10 := cnt_len10 (Nat.lt_trans (zig_lt h0 h1) (by decide))
theorem num_byte (v : Int) : ∀ x ∈ num v, 0 ≤ x ∧ x ≤ 255 := cnt_byte _
theorem num_pos (v : Int) : 0 < (num v).length := cnt_pos _
theorem number_ev {v : Int} {l : List Int} (h0 : -4000000000000000 ≤ v) (h1 : v ≤ 4000000000000000) (hl : l.length ≤ 140737488000000) : Ev (fun k => e_number.f k l v) (l ++ num v) := by
 unfold e_number.f
 have hz := zig_lt h0 h1
 by_cases h : v < 0
 ·refine ev_pos h (Ev.bind ?_ (ev_some _))
  have e : IntKind.u64.wrap (IntKind.u64.wrap (2 * IntKind.u64.wrap (wrap64 (-v))) - 1) = ((zig v : Nat) : Int) := by
   rw [zig_neg h, u64w, u64w, u64w, w64 (by omega) (by omega)]
   omega
  rw [e]
  exact count_ev (by omega) hl
 ·refine ev_neg h (Ev.bind ?_ (ev_some _))
  have e : IntKind.u64.wrap (2 * IntKind.u64.wrap v) = ((zig v : Nat) : Int) := by
   rw [zig_pos h, u64w, u64w]
   omega
  rw [e]
  exact count_ev (by omega) hl
/-- A number's bits, the highest first. -/
def bitsOf (v : Int) : Nat → List Int
 | 0 => []
 | w + 1 => (v / 2 ^ w % 2) :: bitsOf v w
def byteN (bs : List Int) (i : Nat) : Int :=
 bs.getD (8 * i) 0 * 128 + bs.getD (8 * i + 1) 0 * 64 + bs.getD (8 * i + 2) 0 * 32 + bs.getD (8 * i + 3) 0 * 16 + bs.getD (8 * i + 4) 0 * 8 + bs.getD (8 * i + 5) 0 * 4 + bs.getD (8 * i + 6) 0 * 2 + bs.getD (8 * i + 7) 0
/-- Bits as bytes. -/
def pb (bs : List Int) : List Int := (List.range ((bs.length + 7) / 8)).map (byteN bs)
theorem bitsOf_len (v : Int) (w : Nat) : (bitsOf v w).length = w := by
 induction w with
 | zero => rfl
 | succ w ih => simp [bitsOf, ih]
theorem bitsOf_bit (v : Int) (w : Nat) : ∀ b ∈ bitsOf v w, 0 ≤ b ∧ b ≤ 1 := by
 induction w with
 | zero => simp [bitsOf]
 | succ w ih =>
  intro b hb
  rcases List.mem_cons.1 hb with rfl | hb
  ·omega
  ·exact ih b hb
theorem pb_len (bs : List Int) : (pb bs).length = (bs.length + 7) / 8 := by simp [pb]
theorem getD_bit {bs : List Int} (h : ∀ b ∈ bs, 0 ≤ b ∧ b ≤ 1) (q : Nat) : 0 ≤ bs.getD q 0 ∧ bs.getD q 0 ≤ 1 := by
 by_cases hq : q < bs.length
 ·have := h (bs[q]) (List.getElem_mem hq)
  simpa [List.getD, hq] using this
 ·simp [List.getD, List.getElem?_eq_none (Nat.le_of_not_lt hq)]
theorem getD_out {bs : List Int} {q : Nat} (h : bs.length ≤ q) : bs.getD q 0 = 0 := by simp [List.getD, List.getElem?_eq_none h]
theorem getD_snoc {bs : List Int} {b : Int} {q : Nat} (h : q < bs.length) : (bs ++ [b]).getD q 0 = bs.getD q 0 := by
 simp [List.getD, List.getElem?_append_left h]
theorem getD_last {bs : List Int} {b : Int} : (bs ++ [b]).getD bs.length 0 = b := by simp [List.getD]
theorem byteN_byte {bs : List Int} (h : ∀ b ∈ bs, 0 ≤ b ∧ b ≤ 1) (i : Nat) : 0 ≤ byteN bs i ∧ byteN bs i ≤ 255 := by
 have h0 := getD_bit h (8 * i)
 have h1 := getD_bit h (8 * i + 1)
 have h2 := getD_bit h (8 * i + 2)
 have h3 := getD_bit h (8 * i + 3)
 have h4 := getD_bit h (8 * i + 4)
 have h5 := getD_bit h (8 * i + 5)
 have h6 := getD_bit h (8 * i + 6)
 have h7 := getD_bit h (8 * i + 7)
 unfold byteN
 omega
theorem pb_byte {bs : List Int} (h : ∀ b ∈ bs, 0 ≤ b ∧ b ≤ 1) : ∀ x ∈ pb bs, 0 ≤ x ∧ x ≤ 255 := by
 intro x hx
 obtain ⟨i, _, rfl⟩ := List.mem_map.1 hx
 exact byteN_byte h i
theorem byteN_old {bs : List Int} {b : Int} {i : Nat} (h : i < bs.length / 8) : byteN (bs ++ [b]) i = byteN bs i := by
 unfold byteN
 rw [getD_snoc (by omega), getD_snoc (by omega), getD_snoc (by omega), getD_snoc (by omega), getD_snoc (by omega), getD_snoc (by omega), getD_snoc (by omega), getD_snoc (by omega)]
theorem byteN_new {bs : List Int} {b : Int} : byteN (bs ++ [b]) (bs.length / 8) = byteN bs (bs.length / 8) + b * 2 ^ (7 - bs.length % 8) := by
 have hr : bs.length % 8 < 8 := Nat.mod_lt _ (by omega)
 have hq : bs.length = 8 * (bs.length / 8) + bs.length % 8 := by omega
 have out : ∀ q, bs.length < q → (bs ++ [b]).getD q 0 = bs.getD q 0 := fun q h => by rw [getD_out (by simp; omega), getD_out (by omega)]
 have at_ : (bs ++ [b]).getD (8 * (bs.length / 8) + bs.length % 8) 0 = b := by rw [← hq]; exact getD_last
 have old : bs.getD (8 * (bs.length / 8) + bs.length % 8) 0 = 0 := getD_out (by omega)
 have hc : bs.length % 8 = 0 ∨ bs.length % 8 = 1 ∨ bs.length % 8 = 2 ∨ bs.length % 8 = 3 ∨ bs.length % 8 = 4 ∨ bs.length % 8 = 5 ∨ bs.length % 8 = 6 ∨ bs.length % 8 = 7 := by omega
 have same : ∀ j, j ≠ bs.length % 8 → (bs ++ [b]).getD (8 * (bs.length / 8) + j) 0 = bs.getD (8 * (bs.length / 8) + j) 0 := fun j hj => by
  by_cases h : 8 * (bs.length / 8) + j < bs.length
  ·exact getD_snoc h
  ·exact out _ (by omega)
 unfold byteN
 generalize hI : bs.length / 8 = I at *
 generalize hR : bs.length % 8 = R at *
 rcases hc with rfl | rfl | rfl | rfl | rfl | rfl | rfl | rfl
 ·rw [Nat.add_zero] at at_ old
  have s1 := same 1 (by omega)
  have s2 := same 2 (by omega)
  have s3 := same 3 (by omega)
  have s4 := same 4 (by omega)
  have s5 := same 5 (by omega)
  have s6 := same 6 (by omega)
  have s7 := same 7 (by omega)
  rw [at_, old, s1, s2, s3, s4, s5, s6, s7]
  omega
 ·have s0 := same 0 (by omega); rw [Nat.add_zero] at s0
  have s2 := same 2 (by omega)
  have s3 := same 3 (by omega)
  have s4 := same 4 (by omega)
  have s5 := same 5 (by omega)
  have s6 := same 6 (by omega)
  have s7 := same 7 (by omega)
  rw [at_, old, s0, s2, s3, s4, s5, s6, s7]
  omega
 ·have s0 := same 0 (by omega); rw [Nat.add_zero] at s0
  have s1 := same 1 (by omega)
  have s3 := same 3 (by omega)
  have s4 := same 4 (by omega)
  have s5 := same 5 (by omega)
  have s6 := same 6 (by omega)
  have s7 := same 7 (by omega)
  rw [at_, old, s0, s1, s3, s4, s5, s6, s7]
  omega
 ·have s0 := same 0 (by omega); rw [Nat.add_zero] at s0
  have s1 := same 1 (by omega)
  have s2 := same 2 (by omega)
  have s4 := same 4 (by omega)
  have s5 := same 5 (by omega)
  have s6 := same 6 (by omega)
  have s7 := same 7 (by omega)
  rw [at_, old, s0, s1, s2, s4, s5, s6, s7]
  omega
 ·have s0 := same 0 (by omega); rw [Nat.add_zero] at s0
  have s1 := same 1 (by omega)
  have s2 := same 2 (by omega)
  have s3 := same 3 (by omega)
  have s5 := same 5 (by omega)
  have s6 := same 6 (by omega)
  have s7 := same 7 (by omega)
  rw [at_, old, s0, s1, s2, s3, s5, s6, s7]
  omega
 ·have s0 := same 0 (by omega); rw [Nat.add_zero] at s0
  have s1 := same 1 (by omega)
  have s2 := same 2 (by omega)
  have s3 := same 3 (by omega)
  have s4 := same 4 (by omega)
  have s6 := same 6 (by omega)
  have s7 := same 7 (by omega)
  rw [at_, old, s0, s1, s2, s3, s4, s6, s7]
  omega
 ·have s0 := same 0 (by omega); rw [Nat.add_zero] at s0
  have s1 := same 1 (by omega)
  have s2 := same 2 (by omega)
  have s3 := same 3 (by omega)
  have s4 := same 4 (by omega)
  have s5 := same 5 (by omega)
  have s7 := same 7 (by omega)
  rw [at_, old, s0, s1, s2, s3, s4, s5, s7]
  omega
 ·have s0 := same 0 (by omega); rw [Nat.add_zero] at s0
  have s1 := same 1 (by omega)
  have s2 := same 2 (by omega)
  have s3 := same 3 (by omega)
  have s4 := same 4 (by omega)
  have s5 := same 5 (by omega)
  have s6 := same 6 (by omega)
  rw [at_, old, s0, s1, s2, s3, s4, s5, s6]
  omega
/-- The bits from one on are 0. -/
theorem byteN_dvd (bs : List Int) : byteN bs (bs.length / 8) % 2 ^ (8 - bs.length % 8) = 0 ∧ (bs.length % 8 = 0 → byteN bs (bs.length / 8) = 0) := by
 have hr : bs.length % 8 < 8 := Nat.mod_lt _ (by omega)
 have hq : bs.length = 8 * (bs.length / 8) + bs.length % 8 := by omega
 have old : ∀ j, bs.length % 8 ≤ j → bs.getD (8 * (bs.length / 8) + j) 0 = 0 := fun j h => getD_out (by omega)
 have hc : bs.length % 8 = 0 ∨ bs.length % 8 = 1 ∨ bs.length % 8 = 2 ∨ bs.length % 8 = 3 ∨ bs.length % 8 = 4 ∨ bs.length % 8 = 5 ∨ bs.length % 8 = 6 ∨ bs.length % 8 = 7 := by omega
 unfold byteN
 generalize hI : bs.length / 8 = I at *
 generalize hR : bs.length % 8 = R at *
 have o7 := old 7 (by omega)
 rcases hc with rfl | rfl | rfl | rfl | rfl | rfl | rfl | rfl
 ·have o0 := old 0 (by omega); rw [Nat.add_zero] at o0
  rw [o0, old 1 (by omega), old 2 (by omega), old 3 (by omega), old 4 (by omega), old 5 (by omega), old 6 (by omega), o7]
  exact ⟨by omega, fun _ => by omega⟩
 ·rw [old 1 (by omega), old 2 (by omega), old 3 (by omega), old 4 (by omega), old 5 (by omega), old 6 (by omega), o7]
  exact ⟨by omega, fun h => by omega⟩
 ·rw [old 2 (by omega), old 3 (by omega), old 4 (by omega), old 5 (by omega), old 6 (by omega), o7]
  exact ⟨by omega, fun h => by omega⟩
 ·rw [old 3 (by omega), old 4 (by omega), old 5 (by omega), old 6 (by omega), o7]
  exact ⟨by omega, fun h => by omega⟩
 ·rw [old 4 (by omega), old 5 (by omega), old 6 (by omega), o7]
  exact ⟨by omega, fun h => by omega⟩
 ·rw [old 5 (by omega), old 6 (by omega), o7]
  exact ⟨by omega, fun h => by omega⟩
 ·rw [old 6 (by omega), o7]
  exact ⟨by omega, fun h => by omega⟩
 ·rw [o7]
  exact ⟨by omega, fun h => by omega⟩
theorem pb_get {bs : List Int} {i : Nat} (h : i < (bs.length + 7) / 8) : (pb bs)[i]? = some (byteN bs i) := by simp [pb, h]
/-- One more bit. -/
theorem pb_snoc (bs : List Int) (b : Int) : pb (bs ++ [b]) = (if bs.length % 8 = 0 then pb bs ++ [0] else pb bs).set (bs.length / 8) (byteN bs (bs.length / 8) + b * 2 ^ (7 - bs.length % 8)) := by
 have hd := (byteN_dvd bs).2
 refine List.ext_getElem? fun i => ?_
 rw [List.getElem?_set]
 have hln : ((bs ++ [b]).length + 7) / 8 = bs.length / 8 + 1 := by simp; omega
 have hl2 : (if bs.length % 8 = 0 then pb bs ++ [0] else pb bs).length = bs.length / 8 + 1 := by
  split
  ·rw [List.length_append, pb_len, List.length_singleton]; omega
  ·rw [pb_len]; omega
 by_cases hi : bs.length / 8 = i
 ·subst hi
  rw [if_pos rfl, if_pos (by rw [hl2]; omega), pb_get (by omega), byteN_new]
 ·rw [if_neg hi]
  by_cases hlt : i < bs.length / 8
  ·rw [pb_get (by omega), byteN_old hlt]
   split
   ·rw [List.getElem?_append_left (by rw [pb_len]; omega), pb_get (by omega)]
   ·rw [pb_get (by omega)]
  ·rw [List.getElem?_eq_none (by rw [pb_len]; omega), List.getElem?_eq_none (by rw [hl2]; omega)]
theorem pow7 (r : Nat) : ((2 ^ (7 - r) : Nat) : Int) = 2 ^ (7 - r) ∧ (2 : Nat) ^ (7 - r) ≤ 128 ∧ 0 < (2 : Nat) ^ (7 - r) := by
 refine ⟨by rw [Int.natCast_pow]; rfl, ?_, Nat.pow_pos (by omega)⟩
 exact Nat.le_trans (Nat.pow_le_pow_right (by omega) (show 7 - r ≤ 7 by omega)) (by decide)
theorem pow8 {r : Nat} (h : r < 8) : (2 : Int) ^ (8 - r) = 2 * 2 ^ (7 - r) := by
 rw [show 8 - r = (7 - r) + 1 by omega, Int.pow_succ, Int.mul_comm]
theorem tmod8 (n : Nat) : Int.tmod (n : Int) 8 = ((n % 8 : Nat) : Int) := by rw [Int.tmod_eq_emod_of_nonneg (by omega)]; omega
theorem bit_of {v : Int} {c : Nat} (h0 : 0 ≤ v) (h1 : v < 9223372036854775808) (hc : c ≤ 64) : Go.bits .and .i64 (shr .i64 v (c : Int)) 1 = v / 2 ^ c % 2 := by
 unfold shr
 rw [Int.toNat_natCast, Nat.min_eq_left (show c ≤ IntKind.i64.bits from hc)]
 have hp : (0 : Int) < 2 ^ c := Int.pow_pos (by omega)
 have h2 : 0 ≤ v / 2 ^ c := Int.ediv_nonneg h0 (by omega)
 have h3 : v / 2 ^ c ≤ v := Int.ediv_le_self _ h0
 exact bits_mask .i64 63 (by decide) (fun n a b => by rw [IntKind.wrap_i64]; omega) 1 (by decide) _ h2 (by omega)
theorem or_bit {bs : List Int} (hb : ∀ b ∈ bs, 0 ≤ b ∧ b ≤ 1) {b : Int} (b0 : 0 ≤ b) (b1 : b ≤ 1) : Go.bits .or .u8 (byteN bs (bs.length / 8)) (b * 2 ^ (7 - bs.length % 8)) = byteN bs (bs.length / 8) + b * 2 ^ (7 - bs.length % 8) := by
 have hr : bs.length % 8 < 8 := Nat.mod_lt _ (by omega)
 have hB := byteN_byte hb (bs.length / 8)
 obtain ⟨p1, p2, p3⟩ := pow7 (bs.length % 8)
 have p8 := pow8 hr
 have hy : 0 ≤ b * 2 ^ (7 - bs.length % 8) ∧ b * 2 ^ (7 - bs.length % 8) ≤ 2 ^ (7 - bs.length % 8) := by
  rcases (show b = 0 ∨ b = 1 by omega) with rfl | rfl <;> simp <;> omega
 exact bits_join .u8 8 (by decide) wraps_u8 (8 - bs.length % 8) _ _ hB.1 (byteN_dvd bs).1 (by omega) hy.1 (by omega) (by omega)
theorem or_shl {bs : List Int} (hb : ∀ b ∈ bs, 0 ≤ b ∧ b ≤ 1) {b : Int} (b0 : 0 ≤ b) (b1 : b ≤ 1) : Go.bits .or .u8 (byteN bs (bs.length / 8)) (shl .u8 (b % 256) (wrap64 (7 - Int.tmod (bs.length : Int) 8))) = byteN bs (bs.length / 8) + b * 2 ^ (7 - bs.length % 8) := by
 have hr : bs.length % 8 < 8 := Nat.mod_lt _ (by omega)
 obtain ⟨p1, p2, p3⟩ := pow7 (bs.length % 8)
 have e : shl .u8 (b % 256) (wrap64 (7 - Int.tmod (bs.length : Int) 8)) = b * 2 ^ (7 - bs.length % 8) := by
  rw [tmod8, w64 (by omega) (by omega)]
  unfold shl
  rw [show (7 - ((bs.length % 8 : Nat) : Int)).toNat = 7 - bs.length % 8 by omega, Nat.min_eq_left (show 7 - bs.length % 8 ≤ IntKind.u8.bits by show 7 - bs.length % 8 ≤ 8; omega), IntKind.wrap_u8]
  rcases (show b = 0 ∨ b = 1 by omega) with rfl | rfl
  ·simp
  ·rw [show (1 : Int) % 256 = 1 by decide, Int.one_mul, ← p1]
   omega
 rw [e]
 exact or_bit hb b0 b1
theorem or_shr {bs : List Int} (hb : ∀ b ∈ bs, 0 ≤ b ∧ b ≤ 1) : Go.bits .or .u8 (byteN bs (bs.length / 8)) (shr .u8 128 (Int.tmod (bs.length : Int) 8)) = byteN bs (bs.length / 8) + 1 * 2 ^ (7 - bs.length % 8) := by
 have hr : bs.length % 8 < 8 := Nat.mod_lt _ (by omega)
 have e : shr .u8 128 (Int.tmod (bs.length : Int) 8) = 1 * 2 ^ (7 - bs.length % 8) := by
  rw [tmod8]
  unfold shr
  rw [Int.toNat_natCast, Nat.min_eq_left (show bs.length % 8 ≤ IntKind.u8.bits by show bs.length % 8 ≤ 8; omega)]
  have hc : bs.length % 8 = 0 ∨ bs.length % 8 = 1 ∨ bs.length % 8 = 2 ∨ bs.length % 8 = 3 ∨ bs.length % 8 = 4 ∨ bs.length % 8 = 5 ∨ bs.length % 8 = 6 ∨ bs.length % 8 = 7 := by omega
  rcases hc with h | h | h | h | h | h | h | h <;> rw [h] <;> decide
 rw [e]
 exact or_bit hb (by omega) (by omega)
def grown (bs : List Int) : List Int := if bs.length % 8 = 0 then pb bs ++ [0] else pb bs
theorem grown_len (bs : List Int) : (grown bs).length = bs.length / 8 + 1 := by
 unfold grown
 split
 ·rw [List.length_append, pb_len, List.length_singleton]; omega
 ·rw [pb_len]; omega
theorem grown_get (bs : List Int) : (grown bs)[bs.length / 8]? = some (byteN bs (bs.length / 8)) := by
 unfold grown
 split
 ·rename_i h
  rw [List.getElem?_append_right (by rw [pb_len]; omega), pb_len, show bs.length / 8 - (bs.length + 7) / 8 = 0 by omega, (byteN_dvd bs).2 h]
  rfl
 ·rw [pb_get (by omega)]
theorem grown_rd (base bs : List Int) (hl : base.length ≤ 1000000000) (hb : bs.length ≤ 1000000000) : rd (base ++ grown bs) (wrap64 (((base ++ grown bs).length : Int) - 1)) = byteN bs (bs.length / 8) := by
 have h := grown_len bs
 rw [List.length_append, w64 (by omega) (by omega), show ((base.length + (grown bs).length : Nat) : Int) - 1 = ((base.length + bs.length / 8 : Nat) : Int) by omega, rdD]
 rw [List.getD, List.getElem?_append_right (by omega), Nat.add_sub_cancel_left, grown_get]
 rfl
theorem grown_set (base bs : List Int) (hl : base.length ≤ 1000000000) (hb : bs.length ≤ 1000000000) (b : Int) : (base ++ grown bs).set (wrap64 (((base ++ grown bs).length : Int) - 1)).toNat (byteN bs (bs.length / 8) + b * 2 ^ (7 - bs.length % 8)) = base ++ pb (bs ++ [b]) := by
 have h := grown_len bs
 rw [List.length_append, w64 (by omega) (by omega), show (((base.length + (grown bs).length : Nat) : Int) - 1).toNat = base.length + bs.length / 8 by omega]
 rw [List.set_append_right _ _ (by omega), Nat.add_sub_cancel_left, pb_snoc]
 rfl
theorem allbits_bit {bs : List Int} {b : Int} (hb : ∀ b ∈ bs, 0 ≤ b ∧ b ≤ 1) (b0 : 0 ≤ b) (b1 : b ≤ 1) : ∀ c ∈ bs ++ [b], 0 ≤ c ∧ c ≤ 1 := by
 intro c hc
 rcases List.mem_append.1 hc with h | h
 ·exact hb c h
 ·rw [List.mem_singleton.1 h]; exact ⟨b0, b1⟩
theorem packed_l1 (base : List Int) (hl : base.length ≤ 1000000000) (w : Int) (v : Int) (v0 : 0 ≤ v) (v1 : v < 9223372036854775808) (x11 : List Int) (x12 x13 : Int) (r : List Int) (c : Nat) :
 ∀ bs : List Int, (∀ b ∈ bs, 0 ≤ b ∧ b ≤ 1) → bs.length + c ≤ 1000000000 → c ≤ 64 →
 Ev (fun k => e_packed.l0 k (base ++ pb (bs ++ bitsOf v c)) w ((bs.length + c : Nat) : Int) x11 x12 (wrap64 (x13 + 1))) r →
 Ev (fun k => e_packed.l1 k (base ++ pb bs) w (bs.length : Int) v ((c : Int) - 1) x11 x12 x13) r := by
 induction c with
 | zero =>
  intro bs hb hbl hc h
  refine Ev.step (fun k => by rw [e_packed.l1]) (ev_neg (by omega) ?_)
  simpa [bitsOf] using h
 | succ c ih =>
  intro bs hb hbl hc h
  have e1 : ((c + 1 : Nat) : Int) - 1 = (c : Int) := by omega
  have hbit := bit_of v0 v1 (show c ≤ 64 by omega)
  have b0 : 0 ≤ v / 2 ^ c % 2 := by omega
  have b1 : v / 2 ^ c % 2 ≤ 1 := by omega
  have hgl := grown_len bs
  have hpl := pb_len bs
  have hr : bs.length % 8 < 8 := Nat.mod_lt _ (by omega)
  have next : Ev (fun k => e_packed.l1 k ((base ++ grown bs).set (wrap64 (((base ++ grown bs).length : Int) - 1)).toNat (Go.bits .or .u8 (rd (base ++ grown bs) (wrap64 (((base ++ grown bs).length : Int) - 1))) (shl .u8 ((Go.bits .and .i64 (shr .i64 v (c : Int)) 1) % 256) (wrap64 (7 - (Int.tmod (bs.length : Int) 8)))))) w (wrap64 ((bs.length : Int) + 1)) v (wrap64 ((c : Int) - 1)) x11 x12 x13) r := by
   rw [hbit, grown_rd base bs hl (by omega), or_shl hb b0 b1, grown_set base bs hl (by omega)]
   rw [w64 (n := (bs.length : Int) + 1) (by omega) (by omega), w64 (n := (c : Int) - 1) (by omega) (by omega)]
   have := ih (bs ++ [v / 2 ^ c % 2]) (allbits_bit hb b0 b1) (by simp; omega) (by omega) ?_
   ·rw [List.length_append, List.length_singleton] at this
    exact this
   ·rw [List.append_assoc, List.length_append, List.length_singleton]
    rw [show bs.length + 1 + c = bs.length + (c + 1) by omega]
    exact h
  have hlen : (base ++ grown bs).length = base.length + (bs.length / 8 + 1) := by rw [List.length_append, hgl]
  refine Ev.step (fun k => by rw [e_packed.l1]) ?_
  rw [e1]
  refine ev_pos (by omega) ?_
  by_cases h8 : bs.length % 8 = 0
  ·have hg : base ++ pb bs ++ [0] = base ++ grown bs := by unfold grown; rw [if_pos h8, List.append_assoc]
   refine ev_pos (by rw [tmod8]; omega) (ev_pos (by rw [List.length_append, hpl]; omega) ?_)
   rw [hg]
   refine Ev.bind (ev_some _) (ev_pos ?_ (ev_pos ?_ (ev_pos (by omega) (ev_pos ?_ next))))
   ·rw [hlen, w64 (by omega) (by omega)]; omega
   ·rw [hlen, w64 (by omega) (by omega)]; omega
   ·rw [tmod8, w64 (by omega) (by omega)]; omega
  ·have hg : base ++ pb bs = base ++ grown bs := by unfold grown; rw [if_neg h8]
   refine ev_neg (by rw [tmod8]; omega) ?_
   rw [hg]
   refine ev_pos ?_ (ev_pos ?_ (ev_pos (by omega) (ev_pos ?_ next)))
   ·rw [hlen, w64 (by omega) (by omega)]; omega
   ·rw [hlen, w64 (by omega) (by omega)]; omega
   ·rw [tmod8, w64 (by omega) (by omega)]; omega
/-- All bits of numbers, each of so many. -/
def allbits (l : List Int) (w : Nat) : List Int := l.flatMap fun v => bitsOf v w
theorem allbits_len (l : List Int) (w : Nat) : (allbits l w).length = l.length * w := by
 induction l with
 | nil => simp [allbits]
 | cons v l ih =>
  unfold allbits at *
  rw [List.flatMap_cons, List.length_append, ih, bitsOf_len, List.length_cons, Nat.add_mul]
  omega
theorem allbits_bits (l : List Int) (w : Nat) : ∀ b ∈ allbits l w, 0 ≤ b ∧ b ≤ 1 := by
 intro b hb
 obtain ⟨v, _, h⟩ := List.mem_flatMap.1 hb
 exact bitsOf_bit v w b h
theorem allbits_take {l : List Int} {w i : Nat} (h : i < l.length) : allbits (l.take (i + 1)) w = allbits (l.take i) w ++ bitsOf (l.getD i 0) w := by
 unfold allbits
 rw [List.take_add_one, List.flatMap_append]
 simp [List.getD, h]
theorem packed_ev {base l : List Int} {w : Nat} (hl : base.length ≤ 1000000000) (hn : l.length ≤ 2000) (hw : w ≤ 64) (hv : ∀ v ∈ l, 0 ≤ v ∧ v < 9223372036854775808) :
 Ev (fun k => e_packed.f k base l (w : Int)) (base ++ pb (allbits l w)) := by
 have key : ∀ d i, i ≤ l.length → l.length - i ≤ d → Ev (fun k => e_packed.l0 k (base ++ pb (allbits (l.take i) w)) (w : Int) ((i * w : Nat) : Int) l (l.length : Int) (i : Int)) (base ++ pb (allbits l w)) := by
  intro d
  induction d with
  | zero =>
   intro i hi hd
   refine Ev.step (fun k => by rw [e_packed.l0]) (ev_neg (by omega) ?_)
   rw [List.take_of_length_le (by omega)]
   exact ev_some _
  | succ d ih =>
   intro i hi hd
   refine Ev.step (fun k => by rw [e_packed.l0]) ?_
   by_cases hlt : i < l.length
   ·refine ev_pos (by omega) (ev_pos (by omega) (ev_pos (by omega) ?_))
    have hm : l.getD i 0 ∈ l := by
     simp only [List.getD, List.getElem?_eq_getElem hlt, Option.getD_some]
     exact List.getElem_mem hlt
    have hvi := hv _ hm
    have hmul : i * w ≤ 2000 * 64 := Nat.mul_le_mul (by omega) hw
    have hal := allbits_len (l.take i) w
    rw [List.length_take, Nat.min_eq_left hi] at hal
    rw [rdD, w64 (by omega) (by omega)]
    have := packed_l1 base hl (w : Int) (l.getD i 0) hvi.1 hvi.2 l (l.length : Int) (i : Int) (base ++ pb (allbits l w)) w (allbits (l.take i) w) (allbits_bits _ _) (by omega) hw ?_
    ·rw [hal] at this
     exact this
    ·rw [hal, ← allbits_take hlt, w64 (by omega) (by omega), show i * w + w = (i + 1) * w by rw [Nat.add_mul, Nat.one_mul]]
     exact ih (i + 1) (by omega) (by omega)
   ·refine ev_neg (by omega) ?_
    rw [List.take_of_length_le (by omega)]
    exact ev_some _
 have := key l.length 0 (by omega) (by omega)
 simpa [allbits, pb, e_packed.f] using this
theorem compactUpTo_sorted {α : Type} [Inhabited α] [DecidableEq α] (le : α → α → Prop) (tr : ∀ a b c, le a b → le b c → le a c) (an : ∀ a b, le a b → le b a → a = b) (rf : ∀ a, le a a) (d : Array α) (hs : ∀ j, j + 1 < d.size → le d[j]! d[j + 1]!) :
 ∀ m, m ≤ d.size → (Lib.compactUpTo d m).Pairwise (fun a b => le a b ∧ a ≠ b) ∧ (0 < m → ∀ x ∈ Lib.compactUpTo d m, le x d[m - 1]!) ∧ (∀ x, x ∈ Lib.compactUpTo d m ↔ ∃ j, j < m ∧ d[j]! = x) := by
 intro m
 induction m with
 | zero => intro _; simp [Lib.compactUpTo]
 | succ m ih =>
  intro hm
  obtain ⟨i1, i2, i3⟩ := ih (by omega)
  rw [Lib.compactUpTo_succ]
  by_cases h0 : m = 0
  ·subst h0
   have e : Lib.keeps d 0 = true := Lib.keeps_lt_one d 0 (by omega)
   rw [if_pos e]
   have e0 : Lib.compactUpTo d 0 = [] := rfl
   rw [e0, List.nil_append]
   refine ⟨List.pairwise_singleton .., fun _ x hx => by rw [List.mem_singleton.1 hx]; exact rf _, fun x => ?_⟩
   rw [List.mem_singleton]
   exact ⟨fun h => ⟨0, by omega, h.symm⟩, fun ⟨j, hj, h⟩ => by rw [show j = 0 by omega] at h; exact h.symm⟩
  ·have hp := hs (m - 1) (by omega)
   rw [show m - 1 + 1 = m by omega] at hp
   by_cases he : d[m]! = d[m - 1]!
   ·rw [Lib.keeps_neg (by omega) he, if_neg (by simp), List.append_nil]
    refine ⟨i1, fun _ x hx => ?_, fun x => ?_⟩
    ·rw [Nat.add_sub_cancel, he]
     exact i2 (by omega) x hx
    ·rw [i3]
     constructor
     ·rintro ⟨j, hj, h⟩; exact ⟨j, by omega, h⟩
     ·rintro ⟨j, hj, h⟩
      by_cases hjm : j = m
      ·subst hjm; exact ⟨j - 1, by omega, he ▸ h⟩
      ·exact ⟨j, by omega, h⟩
   ·rw [Lib.keeps_pos he, if_pos rfl]
    refine ⟨?_, fun _ x hx => ?_, fun x => ?_⟩
    ·rw [List.pairwise_append]
     refine ⟨i1, by simp, fun a ha b hb => ?_⟩
     rw [List.mem_singleton.1 hb]
     have := i2 (by omega) a ha
     exact ⟨tr _ _ _ this hp, fun h => he (an _ _ (h ▸ this) hp)⟩
    ·rw [Nat.add_sub_cancel]
     rcases List.mem_append.1 hx with h | h
     ·exact tr _ _ _ (i2 (by omega) x h) hp
     ·rw [List.mem_singleton.1 h]; exact rf _
    ·rw [List.mem_append, i3, List.mem_singleton]
     constructor
     ·rintro (⟨j, hj, h⟩ | h)
      ·exact ⟨j, by omega, h⟩
      ·exact ⟨m, by omega, h.symm⟩
     ·rintro ⟨j, hj, h⟩
      by_cases hjm : j = m
      ·subst hjm; exact Or.inr h.symm
      ·exact Or.inl ⟨j, by omega, h⟩
theorem compact_sorted {α : Type} [Inhabited α] [DecidableEq α] (le : α → α → Prop) (tr : ∀ a b c, le a b → le b c → le a c) (an : ∀ a b, le a b → le b a → a = b) (rf : ∀ a, le a a) (zs : List α) (hs : zs.Pairwise le) :
 (Lib.compact zs).Pairwise (fun a b => le a b ∧ a ≠ b) ∧ ∀ x, x ∈ Lib.compact zs ↔ x ∈ zs := by
 have hs' : ∀ j, j + 1 < zs.toArray.size → le zs.toArray[j]! zs.toArray[j + 1]! := by
  intro j hj
  have hj' : j + 1 < zs.length := hj
  rw [getElem!_pos zs.toArray j (by omega), getElem!_pos zs.toArray (j + 1) hj]
  exact List.pairwise_iff_getElem.1 hs j (j + 1) (by omega) hj' (by omega)
 obtain ⟨h1, _, h3⟩ := compactUpTo_sorted le tr an rf zs.toArray hs' zs.length (Nat.le_refl _)
 refine ⟨h1, fun x => ?_⟩
 show x ∈ Lib.compactUpTo zs.toArray zs.length ↔ _
 rw [h3]
 constructor
 ·rintro ⟨j, hj, h⟩
  rw [getElem!_pos zs.toArray j hj] at h
  rw [← h]
  exact List.getElem_mem hj
 ·intro h
  obtain ⟨j, hj, e⟩ := List.getElem_of_mem h
  exact ⟨j, hj, by rw [getElem!_pos zs.toArray j hj]; exact e⟩
/-- The values, sorted, each once. -/
def dst (l : List Int) : List Int := Lib.compact (l.mergeSort fun x y => decide (x ≤ y))
theorem dst_sorted (l : List Int) : (dst l).Pairwise (· < ·) ∧ ∀ x, x ∈ dst l ↔ x ∈ l := by
 have h := List.pairwise_mergeSort (le := fun x y : Int => decide (x ≤ y)) (by intro a b c h1 h2; simp at *; omega) (by intro a b; simp; omega) l
 obtain ⟨h1, h2⟩ := compact_sorted (fun a b : Int => a ≤ b) (fun a b c => Int.le_trans) (fun a b => Int.le_antisymm) Int.le_refl _ (h.imp (fun h => by simpa using h))
 refine ⟨h1.imp (fun ⟨a, b⟩ => by omega), fun x => ?_⟩
 unfold dst
 rw [h2, List.mem_mergeSort]
theorem dst_len (l : List Int) : (dst l).length ≤ l.length := by
 have h := compact_length_le (l.mergeSort fun x y => decide (x ≤ y))
 rw [List.length_mergeSort] at h
 exact h
theorem dst_ne {l : List Int} (h : l ≠ []) : 0 < (dst l).length := by
 cases l with
 | nil => exact absurd rfl h
 | cons a l => exact List.length_pos_of_mem (((dst_sorted (a :: l)).2 a).2 (List.mem_cons_self ..))
/-- A value's place. -/
def pl (d : List Int) (v : Int) : Nat := d.idxOf v
theorem pl_lt {d : List Int} {v : Int} (h : v ∈ d) : pl d v < d.length := List.idxOf_lt_length_of_mem h
theorem pl_get {d : List Int} {v : Int} (h : v ∈ d) : d.getD (pl d v) 0 = v := by
 have := List.getElem_idxOf (pl_lt h)
 simp [List.getD, pl_lt h]
 exact this
theorem pl_iff {d : List Int} (hs : d.Pairwise (· < ·)) {v : Int} (h : v ∈ d) {j : Nat} (hj : j < d.length) : d.getD j 0 < v ↔ j < pl d v := by
 have hg := pl_get h
 have hl := pl_lt h
 have hd : ∀ i, i < d.length → d.getD i 0 = d[i]! := fun i hi => by simp [List.getD, hi]
 have mono : ∀ i j, i < j → j < d.length → d.getD i 0 < d.getD j 0 := fun i j hij hj => by
  have := List.pairwise_iff_getElem.1 hs i j (by omega) hj hij
  simpa [List.getD, hj, show i < d.length by omega] using this
 constructor
 ·intro hlt
  rcases Nat.lt_trichotomy j (pl d v) with h1 | h1 | h1
  ·exact h1
  ·subst h1; omega
  ·have := mono _ _ h1 hj; omega
 ·intro h1
  have := mono _ _ h1 hl
  omega
theorem less_ev (a b : Int) : cmp_Less_int.f a b = some (decide (a < b)) := by
 simp [cmp_Less_int.f, cmp_isNaN_int.f]
theorem search_ev {d : List Int} (hs : d.Pairwise (· < ·)) (hd : d.length ≤ 100000) {v : Int} (h : v ∈ d) : Ev (fun k => s_BinarySearch.f k d v) ((pl d v : Int), true) := by
 have hl := pl_lt h
 have key : ∀ n (i j : Nat), i ≤ pl d v → pl d v ≤ j → j ≤ d.length → j - i ≤ n → Ev (fun k => s_BinarySearch.l0 k d v (d.length : Int) (i : Int) (j : Int)) ((pl d v : Int), true) := by
  intro n
  induction n with
  | zero =>
   intro i j hi hj hjl hn
   refine Ev.step (fun k => by rw [s_BinarySearch.l0]) (ev_neg (by omega) (ev_pos (by omega) (ev_pos (by omega) (ev_pos (by omega) (ev_pos ?_ ?_)))))
   ·rw [rdD, show i = pl d v by omega, pl_get h]
   ·rw [show i = pl d v by omega]
    exact ev_some _
  | succ n ih =>
   intro i j hi hj hjl hn
   refine Ev.step (fun k => by rw [s_BinarySearch.l0]) ?_
   by_cases hij : i < j
   ·have em : wrap64 (IntKind.u64.wrap (wrap64 ((i : Int) + (j : Int))) / 2) = (((i + j) / 2 : Nat) : Int) := by
     rw [w64 (n := (i : Int) + (j : Int)) (by omega) (by omega), u64w, w64 (by omega) (by omega)]
     omega
    rw [em, rdD, less_ev]
    refine ev_pos (by omega) (ev_pos (by omega) (ev_pos (by omega) (Ev.bind (ev_some _) ?_)))
    by_cases hlt : d.getD ((i + j) / 2) 0 < v
    ·have := (pl_iff hs h (by omega)).1 hlt
     refine ev_pos (by simpa using hlt) ?_
     rw [w64 (by omega) (by omega)]
     exact ih ((i + j) / 2 + 1) j (by omega) hj hjl (by omega)
    ·have hnl : ¬ (i + j) / 2 < pl d v := fun h' => hlt ((pl_iff hs h (by omega)).2 h')
     refine ev_neg (by simpa using hlt) ?_
     exact ih i ((i + j) / 2) hi (by omega) (by omega) (by omega)
   ·refine ev_neg (by omega) (ev_pos (by omega) (ev_pos (by omega) (ev_pos (by omega) (ev_pos ?_ ?_))))
    ·rw [rdD, show i = pl d v by omega, pl_get h]
    ·rw [show i = pl d v by omega]
     exact ev_some _
 exact key _ 0 d.length (by omega) (by omega) (Nat.le_refl _) (Nat.le_refl _)
/-- All values' places. -/
def pls (l : List Int) : List Int := l.map fun v => (pl (dst l) v : Int)
theorem pls_len (l : List Int) : (pls l).length = l.length := by simp [pls]
theorem pls_range {l : List Int} : ∀ x ∈ pls l, 0 ≤ x ∧ x < ((dst l).length : Int) := by
 intro x hx
 obtain ⟨v, hv, rfl⟩ := List.mem_map.1 hx
 have := pl_lt (((dst_sorted l).2 v).2 hv)
 omega
theorem distinct_ev {l : List Int} (hl : l.length ≤ 2000) : Ev (fun k => e_distinct.f k l) (dst l, pls l) := by
 have hd := dst_len l
 have hs := dst_sorted l
 have key : ∀ n (i : Nat), i ≤ l.length → l.length - i ≤ n → Ev (fun k => e_distinct.l0 k (dst l) ((l.take i).map fun v => (pl (dst l) v : Int)) l (l.length : Int) (i : Int)) (dst l, pls l) := by
  intro n
  induction n with
  | zero =>
   intro i hi hn
   refine Ev.step (fun k => by rw [e_distinct.l0]) (ev_neg (by omega) ?_)
   rw [List.take_of_length_le (by omega)]
   exact ev_some _
  | succ n ih =>
   intro i hi hn
   refine Ev.step (fun k => by rw [e_distinct.l0]) ?_
   by_cases hlt : i < l.length
   ·have hm : l.getD i 0 ∈ l := by
     simp only [List.getD, List.getElem?_eq_getElem hlt, Option.getD_some]
     exact List.getElem_mem hlt
    refine ev_pos (by omega) (ev_pos (by omega) (ev_pos (by omega) ?_))
    rw [rdD]
    refine Ev.bind (search_ev hs.1 (by omega) ((hs.2 _).2 hm)) (ev_pos (by simp; omega) ?_)
    rw [w64 (by omega) (by omega)]
    have := ih (i + 1) (by omega) (by omega)
    rw [List.take_add_one, List.map_append] at this
    simpa [List.getD, hlt] using this
   ·refine ev_neg (by omega) ?_
    rw [List.take_of_length_le (by omega)]
    exact ev_some _
 unfold e_distinct.f s_Clone.f s_Sort.f s_Compact.f
 rw [if_pos (show l.length * 8 ≤ 140737488355328 by omega)]
 refine Ev.bind (ev_some _) ?_
 rw [if_pos (show l.length < 4611686018427387904 by omega)]
 refine Ev.bind (ev_some _) (Ev.bind (ev_some _) ?_)
 exact key _ 0 (by omega) (Nat.le_refl _)
theorem width_ev {x : Int} (h0 : 0 ≤ x) (h1 : x < 9223372036854775808) : e_widthOf.f x = some ((Lib.bitLen x.toNat : Nat) : Int) := by
 unfold e_widthOf.f bits_Len.f
 rw [u64w, Int.emod_eq_of_lt h0 (by omega), if_pos ⟨h0, by omega⟩]
 rfl
/-- Values that may be encoded. -/
def Okv (l : List Int) : Prop := l.length ≤ 2000 ∧ ∀ v ∈ l, -1000000000000000 ≤ v ∧ v ≤ 1000000000000000
theorem mem_getD {l : List Int} {i : Nat} (h : i < l.length) : l.getD i 0 ∈ l := by
 simp only [List.getD, List.getElem?_eq_getElem h, Option.getD_some]
 exact List.getElem_mem h
theorem wadd (i j : Nat) (h : i + j ≤ 9223372036854775807) : wrap64 ((i : Int) + (j : Int)) = ((i + j : Nat) : Int) := by
 rw [w64 (by omega) (by omega)]; omega
def nums (l : List Int) : List Int := l.flatMap num
theorem nums_len {l : List Int} (h : ∀ v ∈ l, -4000000000000000 ≤ v ∧ v ≤ 4000000000000000) : (nums l).length ≤ 10 * l.length := by
 induction l with
 | nil => simp [nums]
 | cons v l ih =>
  have h1 := ih (fun x hx => h x (List.mem_cons_of_mem _ hx))
  have h2 := h v (List.mem_cons_self ..)
  have := num_len h2.1 h2.2
  unfold nums at *
  rw [List.flatMap_cons, List.length_append, List.length_cons]
  omega
theorem e_l0 {l : List Int} (hn : l.length ≤ 2000) (hv : ∀ v ∈ l, -4000000000000000 ≤ v ∧ v ≤ 4000000000000000) (d : Nat) : ∀ (i : Nat) (out : List Int), i ≤ l.length → l.length - i ≤ d → out.length + 10 * (l.length - i) ≤ 1000000 →
 Ev (fun k => e_encode.l0 k out l (l.length : Int) (i : Int)) (out ++ nums (l.drop i)) := by
 induction d with
 | zero =>
  intro i out hi hd ho
  refine Ev.step (fun k => by rw [e_encode.l0]) (ev_neg (by omega) ?_)
  rw [List.drop_eq_nil_of_le (by omega)]
  simpa [nums] using ev_some out
 | succ d ih =>
  intro i out hi hd ho
  refine Ev.step (fun k => by rw [e_encode.l0]) ?_
  by_cases h : i < l.length
  ·have hb := hv _ (mem_getD h)
   have hl := num_len hb.1 hb.2
   refine ev_pos (by omega) (ev_pos (by omega) (ev_pos (by omega) ?_))
   rw [rdD]
   refine Ev.bind (number_ev hb.1 hb.2 (by omega)) ?_
   rw [w64 (by omega) (by omega)]
   refine ev_eq (ih (i + 1) (out ++ num (l.getD i 0)) (by omega) (by omega) (by rw [List.length_append]; omega)) ?_
   rw [getD_drop_head (d := 0) h, nums, nums, List.flatMap_cons, List.append_assoc]
  ·refine ev_neg (by omega) ?_
   rw [List.drop_eq_nil_of_le (by omega)]
   simpa [nums] using ev_some out
/-- How many of a list are alike at its head. -/
def hdI (b : Int) : List Int → Nat
 | [] => 0
 | c :: l => if c = b then hdI b l + 1 else 0
theorem hdI_le (b : Int) (l : List Int) : hdI b l ≤ l.length := by
 induction l with
 | nil => simp [hdI]
 | cons c l ih =>
  unfold hdI
  split
  ·simp; exact ih
  ·simp
theorem hdI_get {b : Int} {l : List Int} {j : Nat} (h : j < hdI b l) : l[j]? = some b := by
 induction l generalizing j with
 | nil => simp [hdI] at h
 | cons c l ih =>
  unfold hdI at h
  split at h
  ·rename_i hc
   cases j with
   | zero => simp [hc]
   | succ j => simpa using ih (by omega)
  ·omega
theorem hdI_end {b : Int} {l : List Int} (h : hdI b l < l.length) : ∃ c, l[hdI b l]? = some c ∧ c ≠ b := by
 induction l with
 | nil => simp at h
 | cons c l ih =>
  unfold hdI at h ⊢
  split at h
  ·rename_i hc
   rw [if_pos hc]
   simpa using ih (by simpa using h)
  ·rename_i hc
   rw [if_neg hc]
   exact ⟨c, by simp, hc⟩
/-- Runs of values, with their counts. -/
def rle : List Int → List Int
 | [] => []
 | b :: l => num b ++ cnt (hdI b l + 1) ++ rle (l.drop (hdI b l))
termination_by l => l.length
decreasing_by simp; omega
theorem rle_cons (b : Int) (l : List Int) : rle (b :: l) = num b ++ cnt (hdI b l + 1) ++ rle (l.drop (hdI b l)) := by rw [rle]
theorem rle_nil : rle [] = [] := by rw [rle]
theorem rle_len (n : Nat) : ∀ l : List Int, l.length ≤ n → l.length ≤ 2000 → (∀ v ∈ l, -4000000000000000 ≤ v ∧ v ≤ 4000000000000000) → (rle l).length ≤ 20 * l.length := by
 induction n with
 | zero =>
  intro l hl _ _
  have : l = [] := List.eq_nil_of_length_eq_zero (by omega)
  subst this
  simp [rle_nil]
 | succ n ih =>
  intro l hl h2 hv
  cases l with
  | nil => simp [rle_nil]
  | cons b l =>
   have h2' : l.length + 1 ≤ 2000 := h2
   have h1 := hdI_le b l
   have := ih (l.drop (hdI b l)) (by simp at hl ⊢; omega) (by simp; omega) (fun v h => hv v (List.mem_cons_of_mem _ (List.mem_of_mem_drop h)))
   have hc := cnt_len10 (n := hdI b l + 1) (by omega)
   have hb := hv b (List.mem_cons_self ..)
   have hnl := num_len hb.1 hb.2
   rw [rle_cons, List.length_append, List.length_append, List.length_cons]
   rw [List.length_drop] at this
   omega
theorem e_l2 (x : List Int) (hx : x.length ≤ 2000) (hv : ∀ v ∈ x, -4000000000000000 ≤ v ∧ v ≤ 4000000000000000) (out : List Int) (i : Nat) (b : Int) (t : List Int) (hd_ : x.drop i = b :: t) (ho : out.length ≤ 1000000) (r : List Int) (e : Nat) :
 ∀ j, hdI b t = j + e → Ev (fun k => e_encode.l1 k x (out ++ num b ++ cnt (hdI b t + 1)) ((i + (hdI b t + 1) : Nat) : Int)) r →
  Ev (fun k => e_encode.l2 k x out (i : Int) ((j + 1 : Nat) : Int)) r := by
 have hlen : x.length = i + (t.length + 1) := by
  have := congrArg List.length hd_
  simp at this
  omega
 have hget : ∀ q, x[i + q]? = (b :: t)[q]? := by
  intro q
  rw [← hd_, List.getElem?_drop]
 have hle := hdI_le b t
 have hi0 : x.getD i 0 = b := by
  have := hget 0
  simp at this
  simp [List.getD, this]
 have hbm := hv b (hi0 ▸ mem_getD (show i < x.length by omega))
 have hnl := num_len hbm.1 hbm.2
 have fin : Unit → Ev (fun k => e_encode.l1 k x (out ++ num b ++ cnt (hdI b t + 1)) ((i + (hdI b t + 1) : Nat) : Int)) r →
  Ev (fun k => (e_number.f k out (rd x (i : Int))).bind fun t158 => (e_count.f k t158 (IntKind.u64.wrap ((hdI b t + 1 : Nat) : Int))).bind fun t161 => e_encode.l1 k x t161 ((i + (hdI b t + 1) : Nat) : Int)) r := by
  intro _ h
  rw [rdD, hi0, u64w, Int.emod_eq_of_lt (by omega) (by omega)]
  have hc : Ev (fun k => e_count.f k (out ++ num b) ((hdI b t + 1 : Nat) : Int)) (out ++ num b ++ cnt (hdI b t + 1)) := count_ev (by omega) (by rw [List.length_append]; omega)
  have hN : Ev (fun k => e_number.f k out b) (out ++ num b) := number_ev hbm.1 hbm.2 (by omega)
  exact Ev.bind hN (Ev.bind hc h)
 induction e with
 | zero =>
  intro j hj h
  have hj' : j = hdI b t := by omega
  subst hj'
  have e1 : wrap64 ((i : Int) + ((hdI b t + 1 : Nat) : Int)) = ((i + (hdI b t + 1) : Nat) : Int) := by rw [w64 (by omega) (by omega)]; omega
  refine Ev.step (fun k => by rw [e_encode.l2]) ?_
  rw [e1]
  by_cases hin : i + (hdI b t + 1) < x.length
  ·obtain ⟨c, hc, hne⟩ := hdI_end (b := b) (l := t) (by omega)
   have hnx : x.getD (i + (hdI b t + 1)) 0 = c := by
    have h1 := hget (hdI b t + 1)
    simp only [List.getElem?_cons_succ, hc] at h1
    simp [List.getD, h1]
   refine ev_pos (by omega) (ev_pos (by omega) (ev_pos (by omega) (ev_pos (by omega) (ev_neg ?_ (fin () h)))))
   rw [rdD, rdD, hnx, hi0]
   exact hne
  ·exact ev_neg (by omega) (ev_pos (by omega) (ev_pos (by omega) (fin () h)))
 | succ e ih =>
  intro j hj h
  refine Ev.step (fun k => by rw [e_encode.l2]) ?_
  clear fin hnl hbm hv ho
  have e1 := wadd i (j + 1) (by omega)
  have e2 := wadd (j + 1) 1 (by omega)
  rw [show ((1 : Nat) : Int) = 1 from rfl] at e2
  rw [e1, e2]
  have hnx : x.getD (i + (j + 1)) 0 = b := by
   have h1 := hget (j + 1)
   have h2 := hdI_get (b := b) (l := t) (j := j) (by omega)
   simp only [List.getElem?_cons_succ, h2] at h1
   simp [List.getD, h1]
  refine ev_pos (by omega) (ev_pos (by omega) (ev_pos (by omega) (ev_pos (by omega) (ev_pos ?_ ?_))))
  ·rw [rdD, rdD, hnx, hi0]
  ·exact ih (j + 1) (by omega) h
theorem e_l1 (x : List Int) (hx : x.length ≤ 2000) (hv : ∀ v ∈ x, -4000000000000000 ≤ v ∧ v ≤ 4000000000000000) (d : Nat) : ∀ (i : Nat) (out : List Int), i ≤ x.length → x.length - i ≤ d → out.length + 20 * (x.length - i) ≤ 1000000 →
 Ev (fun k => e_encode.l1 k x out (i : Int)) (out ++ rle (x.drop i)) := by
 induction d with
 | zero =>
  intro i out hi hdd ho
  refine Ev.step (fun k => by rw [e_encode.l1]) (ev_neg (by omega) ?_)
  rw [List.drop_eq_nil_of_le (by omega), rle_nil, List.append_nil]
  exact ev_some out
 | succ d ih =>
  intro i out hi hdd ho
  refine Ev.step (fun k => by rw [e_encode.l1]) ?_
  by_cases hlt : i < x.length
  ·obtain ⟨b, t, hbt⟩ : ∃ b t, x.drop i = b :: t := ⟨_, _, getD_drop_head (d := 0) hlt⟩
   have hlen : x.length = i + (t.length + 1) := by
    have := congrArg List.length hbt
    simp at this
    omega
   have hle := hdI_le b t
   have hbm : b ∈ x := List.mem_of_mem_drop (i := i) (by rw [hbt]; exact List.mem_cons_self ..)
   have hnl := num_len (hv b hbm).1 (hv b hbm).2
   have hcl := cnt_len10 (n := hdI b t + 1) (by omega)
   refine ev_pos (by omega) (e_l2 x hx hv out i b t hbt (by omega) _ (hdI b t) 0 (by omega) ?_)
   refine ev_eq (ih (i + (hdI b t + 1)) (out ++ num b ++ cnt (hdI b t + 1)) (by omega) (by omega) (by rw [List.length_append, List.length_append]; omega)) ?_
   rw [hbt, rle_cons, ← List.drop_drop, hbt, List.drop_succ_cons]
   simp only [List.append_assoc]
  ·refine ev_neg (by omega) ?_
   rw [List.drop_eq_nil_of_le (by omega), rle_nil, List.append_nil]
   exact ev_some out
/-- The steps from value to value. -/
def dif : Int → List Int → List Int
 | _, [] => []
 | p, b :: t => cnt (b - p).toNat ++ dif b t
theorem dif_len : ∀ (p : Int) (l : List Int), (p :: l).Pairwise (· < ·) → (∀ v ∈ p :: l, -1000000000000000 ≤ v ∧ v ≤ 1000000000000000) → (dif p l).length ≤ 10 * l.length
 | p, [], _, _ => by simp [dif]
 | p, b :: t, hs, hv => by
  have h1 := dif_len b t hs.tail (fun v h => hv v (List.mem_cons_of_mem _ h))
  have h2 := hv p (List.mem_cons_self ..)
  have h3 := hv b (by simp)
  have := cnt_len10 (n := (b - p).toNat) (by omega)
  rw [dif, List.length_append, List.length_cons]
  omega
/-- What stands behind the count of values. -/
def dict (l : List Int) : List Int := cnt (dst l).length ++ num ((dst l).getD 0 0) ++ dif ((dst l).getD 0 0) ((dst l).drop 1) ++ pb (allbits (pls l) (Lib.bitLen ((dst l).length - 1)))
theorem bitLen64 {x : Nat} (h : x < 18446744073709551616) : Lib.bitLen x ≤ 64 := Lib.bitLen_le x 64 (by omega) (by simpa using h)
theorem pb_len_le {l : List Int} {w : Nat} (hl : l.length ≤ 2000) (hw : w ≤ 64) : (pb (allbits l w)).length ≤ 16000 := by
 rw [pb_len, allbits_len]
 have : l.length * w ≤ 2000 * 64 := Nat.mul_le_mul hl hw
 omega
theorem e_l3 {l : List Int} (hl : l.length ≤ 2000) (hv : ∀ v ∈ l, -1000000000000000 ≤ v ∧ v ≤ 1000000000000000) (d : Nat) : ∀ (i : Nat) (out : List Int), i + 1 ≤ (dst l).length → (dst l).length - (i + 1) ≤ d → out.length + 10 * ((dst l).length - i) ≤ 1000000 →
 Ev (fun k => e_encode.l3 k out (dst l) (pls l) ((i + 1 : Nat) : Int)) (out ++ dif ((dst l).getD i 0) ((dst l).drop (i + 1)) ++ pb (allbits (pls l) (Lib.bitLen ((dst l).length - 1)))) := by
 have hs := dst_sorted l
 have hdl := dst_len l
 have done : ∀ (i : Nat) (out : List Int), i + 1 = (dst l).length → out.length ≤ 1000000 → Ev (fun k => e_encode.l3 k out (dst l) (pls l) ((i + 1 : Nat) : Int)) (out ++ dif ((dst l).getD i 0) ((dst l).drop (i + 1)) ++ pb (allbits (pls l) (Lib.bitLen ((dst l).length - 1)))) := by
  intro i out hi ho
  refine Ev.step (fun k => by rw [e_encode.l3]) (ev_neg (by omega) ?_)
  rw [List.drop_eq_nil_of_le (by omega), dif, List.append_nil, w64 (by omega) (by omega), width_ev (by omega) (by omega)]
  refine Ev.bind (ev_some _) (Ev.bind ?_ (ev_some _))
  rw [show (((dst l).length : Int) - 1).toNat = (dst l).length - 1 by omega]
  exact packed_ev (by omega) (by rw [pls_len]; exact hl) (bitLen64 (by omega)) (fun v h => by have := pls_range v h; omega)
 induction d with
 | zero =>
  intro i out hi hd ho
  exact done i out (by omega) (by omega)
 | succ d ih =>
  intro i out hi hd ho
  by_cases h : i + 1 < (dst l).length
  ·have hb1 := hv _ ((hs.2 _).1 (mem_getD h))
   have hb0 := hv _ ((hs.2 _).1 (mem_getD (show i < (dst l).length by omega)))
   have hlt : (dst l).getD i 0 < (dst l).getD (i + 1) 0 := by
    have := List.pairwise_iff_getElem.1 hs.1 i (i + 1) (by omega) h (by omega)
    simpa [List.getD, h, show i < (dst l).length by omega] using this
   have hcl := cnt_len10 (n := ((dst l).getD (i + 1) 0 - (dst l).getD i 0).toNat) (by omega)
   have ei : wrap64 (((i + 1 : Nat) : Int) - 1) = (i : Int) := by rw [w64 (by omega) (by omega)]; omega
   have ec : IntKind.u64.wrap (wrap64 ((dst l).getD (i + 1) 0 - (dst l).getD i 0)) = (((dst l).getD (i + 1) 0 - (dst l).getD i 0).toNat : Int) := by
    rw [w64 (by omega) (by omega), u64w]; omega
   refine Ev.step (fun k => by rw [e_encode.l3]) ?_
   rw [ei, rdD, rdD, ec, w64 (by omega) (by omega)]
   refine ev_pos (by omega) (ev_pos (by omega) (ev_pos (by omega) (ev_pos (by omega) ?_)))
   refine Ev.bind (count_ev (by omega) (by omega)) ?_
   refine ev_eq (ih (i + 1) (out ++ cnt ((dst l).getD (i + 1) 0 - (dst l).getD i 0).toNat) (by omega) (by omega) (by rw [List.length_append]; omega)) ?_
   rw [getD_drop_head (d := 0) h, dif]
   simp only [List.append_assoc]
  ·exact done i out (by omega) (by omega)
theorem minOf_le (l : List Int) (h : l ≠ []) : Lib.minOf l ∈ l ∧ ∀ v ∈ l, Lib.minOf l ≤ v := by
 have key : ∀ (l : List Int) (a : Int), (l.foldl min a = a ∨ l.foldl min a ∈ l) ∧ l.foldl min a ≤ a ∧ ∀ v ∈ l, l.foldl min a ≤ v := by
  intro l
  induction l with
  | nil => intro a; simp
  | cons b l ih =>
   intro a
   obtain ⟨h1, h2, h3⟩ := ih (min a b)
   rw [List.foldl_cons]
   refine ⟨?_, by omega, fun v hv => ?_⟩
   ·rcases h1 with h1 | h1
    ·rw [h1]
     rcases Int.le_total a b with h | h
     ·rw [Int.min_eq_left h]; exact Or.inl rfl
     ·rw [Int.min_eq_right h]; exact Or.inr (List.mem_cons_self ..)
    ·exact Or.inr (List.mem_cons_of_mem _ h1)
   ·rcases List.mem_cons.1 hv with rfl | hv
    ·omega
    ·exact h3 v hv
 cases l with
 | nil => exact absurd rfl h
 | cons a l =>
  obtain ⟨h1, h2, h3⟩ := key (a :: l) a
  refine ⟨?_, fun v hv => h3 v hv⟩
  unfold Lib.minOf
  rcases h1 with h1 | h1
  ·simp only [List.headD_cons]; rw [h1]; exact List.mem_cons_self ..
  ·exact h1
theorem maxOf_ge (l : List Int) (h : l ≠ []) : Lib.maxOf l ∈ l ∧ ∀ v ∈ l, v ≤ Lib.maxOf l := by
 have key : ∀ (l : List Int) (a : Int), (l.foldl max a = a ∨ l.foldl max a ∈ l) ∧ a ≤ l.foldl max a ∧ ∀ v ∈ l, v ≤ l.foldl max a := by
  intro l
  induction l with
  | nil => intro a; simp
  | cons b l ih =>
   intro a
   obtain ⟨h1, h2, h3⟩ := ih (max a b)
   rw [List.foldl_cons]
   refine ⟨?_, by omega, fun v hv => ?_⟩
   ·rcases h1 with h1 | h1
    ·rw [h1]
     rcases Int.le_total a b with h | h
     ·rw [Int.max_eq_right h]; exact Or.inr (List.mem_cons_self ..)
     ·rw [Int.max_eq_left h]; exact Or.inl rfl
    ·exact Or.inr (List.mem_cons_of_mem _ h1)
   ·rcases List.mem_cons.1 hv with rfl | hv
    ·omega
    ·exact h3 v hv
 cases l with
 | nil => exact absurd rfl h
 | cons a l =>
  obtain ⟨h1, h2, h3⟩ := key (a :: l) a
  refine ⟨?_, fun v hv => h3 v hv⟩
  unfold Lib.maxOf
  rcases h1 with h1 | h1
  ·simp only [List.headD_cons]; rw [h1]; exact List.mem_cons_self ..
  ·exact h1
/-- The width of the steps above the least. -/
def fw (l : List Int) : Nat := Lib.bitLen (Lib.maxOf l - Lib.minOf l).toNat
/-- The steps above the least. -/
def fs (l : List Int) : List Int := l.map fun v => v - Lib.minOf l
def frame (l : List Int) : List Int := num (Lib.minOf l) ++ [(fw l : Int)] ++ pb (allbits (fs l) (fw l))
theorem fw_le {l : List Int} (h : Okv l) (hn : l ≠ []) : fw l ≤ 51 := by
 have h1 := h.2 _ (maxOf_ge l hn).1
 have h2 := h.2 _ (minOf_le l hn).1
 exact Lib.bitLen_le _ 51 (by omega) (by omega)
theorem fs_range {l : List Int} (h : Okv l) (hn : l ≠ []) : ∀ v ∈ fs l, 0 ≤ v ∧ v ≤ Lib.maxOf l - Lib.minOf l := by
 intro v hv
 obtain ⟨u, hu, rfl⟩ := List.mem_map.1 hv
 have h1 := (minOf_le l hn).2 u hu
 have h2 := (maxOf_ge l hn).2 u hu
 omega
theorem e_l4 {l : List Int} (h : Okv l) (hn : l ≠ []) {base : List Int} (hb : base.length ≤ 1000000) (d : Nat) : ∀ i : Nat, i ≤ l.length → l.length - i ≤ d →
 Ev (fun k => e_encode.l4 k base (Lib.minOf l) (fw l : Int) ((l.take i).map fun v => v - Lib.minOf l) l (l.length : Int) (i : Int)) (base ++ pb (allbits (fs l) (fw l))) := by
 have h1 := h.2 _ (maxOf_ge l hn).1
 have h2 := h.2 _ (minOf_le l hn).1
 have hl := h.1
 have done : Ev (fun k => (e_packed.f k base (fs l) (fw l : Int)).bind fun t207 => some t207) (base ++ pb (allbits (fs l) (fw l))) :=
  Ev.bind (packed_ev (by omega) (by simpa [fs] using hl) (by have := fw_le h hn; omega) (fun v hv => by have := fs_range h hn v hv; omega)) (ev_some _)
 induction d with
 | zero =>
  intro i hi hd
  refine Ev.step (fun k => by rw [e_encode.l4]) (ev_neg (by omega) ?_)
  rw [List.take_of_length_le (by omega)]
  exact done
 | succ d ih =>
  intro i hi hd
  refine Ev.step (fun k => by rw [e_encode.l4]) ?_
  by_cases hlt : i < l.length
  ·have hb := h.2 _ (mem_getD hlt)
   refine ev_pos (by omega) (ev_pos (by omega) (ev_pos (by omega) (ev_pos (by simp; omega) ?_)))
   rw [rdD, w64 (by omega) (by omega), w64 (by omega) (by omega)]
   have := ih (i + 1) (by omega) (by omega)
   rw [List.take_add_one, List.map_append] at this
   simpa [List.getD, hlt] using this
  ·refine ev_neg (by omega) ?_
   rw [List.take_of_length_le (by omega)]
   exact done
/-- The steps from value to value, either way. -/
def dlt : Int → List Int → List Int
 | _, [] => []
 | p, b :: t => num (b - p) ++ dlt b t
theorem dlt_len : ∀ (p : Int) (l : List Int), (∀ v ∈ p :: l, -1000000000000000 ≤ v ∧ v ≤ 1000000000000000) → (dlt p l).length ≤ 10 * l.length
 | p, [], _ => by simp [dlt]
 | p, b :: t, hv => by
  have h1 := dlt_len b t (fun v h => hv v (List.mem_cons_of_mem _ h))
  have h2 := hv p (List.mem_cons_self ..)
  have h3 := hv b (by simp)
  have := num_len (v := b - p) (by omega) (by omega)
  rw [dlt, List.length_append, List.length_cons]
  omega
theorem e_l5 {l : List Int} (h : Okv l) (d : Nat) : ∀ (i : Nat) (p : Int) (out : List Int), i ≤ l.length → l.length - i ≤ d → (-1000000000000000 ≤ p ∧ p ≤ 1000000000000000) → out.length + 10 * (l.length - i) ≤ 1000000 →
 Ev (fun k => e_encode.l5 k out p l (l.length : Int) (i : Int)) (out ++ dlt p (l.drop i)) := by
 have hn := h.1
 induction d with
 | zero =>
  intro i p out hi hd hp ho
  refine Ev.step (fun k => by rw [e_encode.l5]) (ev_neg (by omega) ?_)
  rw [List.drop_eq_nil_of_le (by omega)]
  simpa [dlt] using ev_some out
 | succ d ih =>
  intro i p out hi hd hp ho
  refine Ev.step (fun k => by rw [e_encode.l5]) ?_
  by_cases hlt : i < l.length
  ·have hb := h.2 _ (mem_getD hlt)
   have hl := num_len (v := l.getD i 0 - p) (by omega) (by omega)
   refine ev_pos (by omega) (ev_pos (by omega) (ev_pos (by omega) ?_))
   rw [rdD, w64 (by omega) (by omega), w64 (by omega) (by omega)]
   refine Ev.bind (number_ev (by omega) (by omega) (by omega)) ?_
   refine ev_eq (ih (i + 1) (l.getD i 0) (out ++ num (l.getD i 0 - p)) (by omega) (by omega) hb (by rw [List.length_append]; omega)) ?_
   rw [getD_drop_head (d := 0) hlt, dlt, List.append_assoc]
  ·refine ev_neg (by omega) ?_
   rw [List.drop_eq_nil_of_le (by omega)]
   simpa [dlt] using ev_some out
/-- What stands behind the count. -/
def body (c : Nat) (l : List Int) : List Int := if c = 1 then nums l else if c = 2 then rle l else if c = 3 then dict l else if c = 4 then frame l else dlt 0 l
/-- What is encoded. -/
def enc (c : Nat) (l : List Int) : List Int := (c : Int) :: cnt l.length ++ if l = [] then [] else body c l
theorem e_ev {c : Nat} (h1 : 1 ≤ c) (h5 : c ≤ 5) {l : List Int} (h : Okv l) : Ev (fun k => e_encode.f k (c : Int) l) (enc c l) := by
 have hn := h.1
 have hcl := cnt_len10 (n := l.length) (by omega)
 have h4 : ∀ v ∈ l, -4000000000000000 ≤ v ∧ v ≤ 4000000000000000 := fun v hv => by have := h.2 v hv; omega
 unfold e_encode.f
 rw [Int.emod_eq_of_lt (show 0 ≤ (c : Int) by omega) (by omega), u64w, Int.emod_eq_of_lt (show 0 ≤ (l.length : Int) by omega) (by omega)]
 refine Ev.bind (count_ev (by omega) (by simp)) ?_
 unfold enc
 by_cases hz : l = []
 ·rw [if_pos hz]
  exact ev_pos (by rw [hz]; rfl) (ev_eq (ev_some _) (by simp))
 ·rw [if_neg hz]
  have hp := List.length_pos_iff.2 hz
  refine ev_neg (by omega) ?_
  have hout : ([(c : Int)] ++ cnt l.length).length ≤ 11 := by rw [List.length_append, List.length_singleton]; omega
  unfold body
  by_cases e1 : c = 1
  ·rw [if_pos e1]
   exact ev_pos (by omega) (e_l0 hn h4 _ 0 _ (by omega) (Nat.le_refl _) (by omega))
  rw [if_neg e1]
  refine ev_neg (by omega) ?_
  by_cases e2 : c = 2
  ·rw [if_pos e2]
   exact ev_pos (by omega) (e_l1 l hn h4 _ 0 _ (by omega) (Nat.le_refl _) (by omega))
  rw [if_neg e2]
  refine ev_neg (by omega) ?_
  by_cases e3 : c = 3
  ·rw [if_pos e3]
   have hdl := dst_len l
   have hdp := dst_ne hz
   have hm := h.2 _ (((dst_sorted l).2 _).1 (mem_getD hdp))
   have hc2 := cnt_len10 (n := (dst l).length) (by omega)
   have hnl := num_len (v := (dst l).getD 0 0) (by omega) (by omega)
   refine ev_pos (by omega) (Ev.bind (distinct_ev hn) ?_)
   dsimp only
   rw [u64w, Int.emod_eq_of_lt (show 0 ≤ ((dst l).length : Int) by omega) (by omega)]
   refine Ev.bind (count_ev (by omega) (by omega)) (ev_pos (by omega) ?_)
   rw [show (0 : Int) = ((0 : Nat) : Int) from rfl, rdD]
   refine Ev.bind (number_ev (by omega) (by omega) (by rw [List.length_append]; omega)) ?_
   refine ev_eq (e_l3 hn h.2 _ 0 _ (by omega) (Nat.le_refl _) (by rw [List.length_append, List.length_append]; omega)) ?_
   unfold dict
   simp only [List.append_assoc, List.cons_append, List.nil_append]
  rw [if_neg e3]
  refine ev_neg (by omega) ?_
  by_cases e4 : c = 4
  ·rw [if_pos e4]
   have hx := h.2 _ (maxOf_ge l hz).1
   have hm := h.2 _ (minOf_le l hz).1
   have hle := (minOf_le l hz).2 _ (maxOf_ge l hz).1
   have hfw := fw_le h hz
   have hnl := num_len (v := Lib.minOf l) (by omega) (by omega)
   unfold s_Min.f s_Max.f
   rw [if_neg hz, if_neg hz]
   refine ev_pos (by omega) (Ev.bind (ev_some _) (Ev.bind (ev_some _) (Ev.bind (ev_some _) ?_)))
   rw [w64 (by omega) (by omega), width_ev (by omega) (by omega)]
   refine Ev.bind (ev_some _) (Ev.bind (number_ev (by omega) (by omega) (by omega)) (ev_pos (by rw [List.length_append]; omega) ?_))
   have ew : ((Lib.bitLen (Lib.maxOf l - Lib.minOf l).toNat : Nat) : Int) % 256 = (fw l : Int) := by
    have : Lib.bitLen (Lib.maxOf l - Lib.minOf l).toNat = fw l := rfl
    rw [this]; omega
   rw [ew]
   refine ev_eq (e_l4 h hz (base := [(c : Int)] ++ cnt l.length ++ num (Lib.minOf l) ++ [(fw l : Int)]) (by simp only [List.length_append, List.length_singleton]; omega) _ 0 (by omega) (Nat.le_refl _)) ?_
   unfold frame
   simp only [List.append_assoc, List.cons_append, List.nil_append]
  rw [if_neg e4]
  exact ev_neg (by omega) (e_l5 h _ 0 0 _ (by omega) (Nat.le_refl _) (by omega) (by omega))
theorem enc_len {c : Nat} {l : List Int} (h : Okv l) : (enc c l).length ≤ 100000 := by
 have hn := h.1
 have hcl := cnt_len10 (n := l.length) (by omega)
 have h4 : ∀ v ∈ l, -4000000000000000 ≤ v ∧ v ≤ 4000000000000000 := fun v hv => by have := h.2 v hv; omega
 unfold enc
 rw [List.length_append, List.length_cons]
 split
 ·simp; omega
 ·rename_i hz
  unfold body
  split
  ·have := nums_len h4; omega
  split
  ·have := rle_len _ l (Nat.le_refl _) hn h4; omega
  split
  ·have hdl := dst_len l
   have hdp := dst_ne hz
   have hs := dst_sorted l
   have hm := h.2 _ ((hs.2 _).1 (mem_getD hdp))
   have hc2 := cnt_len10 (n := (dst l).length) (by omega)
   have hnl := num_len (v := (dst l).getD 0 0) (by omega) (by omega)
   have hcons : (dst l).getD 0 0 :: (dst l).drop 1 = dst l := by
    have := getD_drop_head (d := 0) hdp
    rw [List.drop_zero] at this
    exact this.symm
   have hdf := dif_len ((dst l).getD 0 0) ((dst l).drop 1) (by rw [hcons]; exact hs.1) (by rw [hcons]; exact fun v hv => h.2 v ((hs.2 v).1 hv))
   have hpb := pb_len_le (l := pls l) (w := Lib.bitLen ((dst l).length - 1)) (by rw [pls_len]; exact hn) (bitLen64 (by omega))
   unfold dict
   rw [List.length_drop] at hdf
   simp only [List.length_append]
   omega
  split
  ·have hm := h.2 _ (minOf_le l hz).1
   have hnl := num_len (v := Lib.minOf l) (by omega) (by omega)
   have hfw := fw_le h hz
   have hpb := pb_len_le (l := fs l) (w := fw l) (by simpa [fs] using hn) (by omega)
   unfold frame
   simp only [List.length_append, List.length_singleton]
   omega
  ·have := dlt_len 0 l (fun v hv => by
    rcases List.mem_cons.1 hv with rfl | hv
    ·omega
    ·exact h.2 v hv)
   omega
def inR (v : Int) : Bool := decide (-1000000000000000 ≤ v) && decide (v ≤ 1000000000000000)
/-- What check answers. -/
def chk (l : List Int) : Int := if l.length > 2000 then 2 else if l.all inR then 0 else 1
theorem chk_ok {l : List Int} : chk l = 0 ↔ Okv l := by
 unfold chk Okv
 by_cases h : l.length > 2000
 ·rw [if_pos h]
  exact ⟨fun h => by omega, fun h' => by omega⟩
 ·rw [if_neg h]
  by_cases ha : l.all inR = true
  ·rw [if_pos ha]
   rw [List.all_eq_true] at ha
   exact ⟨fun _ => ⟨by omega, fun v hv => by have := ha v hv; simp [inR] at this; exact this⟩, fun _ => rfl⟩
  ·rw [if_neg ha]
   exact ⟨fun h => by omega, fun h' => absurd (List.all_eq_true.2 fun v hv => by have := h'.2 v hv; simp [inR]; exact this) ha⟩
theorem in_eq (lo hi v : Int) : kit_In.f v lo hi = some (decide (lo ≤ v) && decide (v ≤ hi)) := by
 unfold kit_In.f
 by_cases h : lo ≤ v
 ·rw [if_pos h]; simp [h]
 ·rw [if_neg h]; simp [h]
theorem check_ev (l : List Int) : Ev (fun k => e_check.f k l) (chk l) := by
 unfold e_check.f chk
 by_cases h : l.length > 2000
 ·rw [if_pos h]
  exact ev_pos (by omega) (ev_some _)
 ·rw [if_neg h]
  refine ev_neg (by omega) ?_
  have key : ∀ n (i : Nat), i ≤ l.length → l.length - i ≤ n → Ev (fun k => e_check.l0 k l (l.length : Int) (i : Int)) (if (l.drop i).all inR then 0 else 1) := by
   intro n
   induction n with
   | zero =>
    intro i hi hn
    refine Ev.step (fun k => by rw [e_check.l0]) (ev_neg (by omega) ?_)
    rw [List.drop_eq_nil_of_le (by omega)]
    exact ev_some _
   | succ n ih =>
    intro i hi hn
    refine Ev.step (fun k => by rw [e_check.l0]) ?_
    by_cases hlt : i < l.length
    ·refine ev_pos (by omega) (ev_pos (by omega) (ev_pos (by omega) ?_))
     rw [rdD, in_eq, getD_drop_head (d := 0) hlt, List.all_cons]
     refine Ev.bind (ev_some _) ?_
     by_cases hin : inR (l.getD i 0) = true
     ·refine ev_pos hin ?_
      rw [hin, Bool.true_and, w64 (by omega) (by omega)]
      exact ih (i + 1) (by omega) (by omega)
     ·refine ev_neg hin ?_
      rw [eq_false_of_ne_true hin]
      exact ev_some _
    ·refine ev_neg (by omega) ?_
     rw [List.drop_eq_nil_of_le (by omega)]
     exact ev_some _
  exact key _ 0 (by omega) (Nat.le_refl _)
/-- What Encode answers. -/
def encAns (c : Int) (l : List Int) : List Int × Int := if 1 ≤ c ∧ c ≤ 5 then (if chk l = 0 then (enc c.toNat l, 0) else ([], chk l)) else ([], 4)
def el (l : List Int) (c : Nat) : Nat := (enc c l).length
/-- The best of the codes from i on, if the best before them is b. -/
def bst (l : List Int) : Nat → Nat → Nat → Nat
 | 0, _, b => b
 | n + 1, i, b => bst l n (i + 1) (if b = 0 then i else if el l i < el l b then i else b)
theorem best_l0 {l : List Int} (h : Okv l) (n : Nat) : ∀ i b : Nat, i + n = 6 → 1 ≤ i → b < i → Ev (fun k => e_best.l0 k l (b : Int) (if b = 0 then 0 else (el l b : Int)) (i : Int)) (bst l n i b : Int) := by
 induction n with
 | zero =>
  intro i b hi h1 hb
  refine Ev.step (fun k => by rw [e_best.l0]) ?_
  exact ev_neg (show ¬ (i : Int) ≤ 5 by omega) (ev_some _)
 | succ n ih =>
  intro i b hi h1 hb
  refine Ev.step (fun k => by rw [e_best.l0]) (ev_pos (by omega) (Ev.bind (e_ev h1 (by omega) h) ?_))
  rw [w64 (by omega) (by omega), bst]
  by_cases h0 : b = 0
  ·subst h0
   rw [if_pos rfl]
   have := ih (i + 1) i (by omega) (by omega) (by omega)
   rw [if_neg (by omega)] at this
   exact ev_pos rfl this
  ·rw [if_neg h0, if_neg h0]
   refine ev_neg (by omega) ?_
   by_cases hlt : el l i < el l b
   ·have := ih (i + 1) i (by omega) (by omega) (by omega)
    rw [if_neg (show ¬ i = 0 by omega)] at this
    rw [if_pos hlt]
    exact ev_pos (by exact_mod_cast hlt) this
   ·have := ih (i + 1) b (by omega) (by omega) (by omega)
    rw [if_neg h0] at this
    rw [if_neg hlt]
    exact ev_neg (by exact_mod_cast hlt) this
/-- The best code. -/
def bestOf (l : List Int) : Nat := bst l 5 1 0
theorem best_ev {l : List Int} (h : Okv l) : Ev (fun k => e_best.f k l) (bestOf l : Int) := best_l0 h 5 1 0 rfl (by omega) (by omega)
theorem bst_spec (l : List Int) (n : Nat) : ∀ i b : Nat, b < i → 1 ≤ b → (∀ c, 1 ≤ c → c < i → el l b ≤ el l c ∧ (el l c = el l b → b ≤ c)) →
 1 ≤ bst l n i b ∧ bst l n i b < i + n ∧ ∀ c, 1 ≤ c → c < i + n → el l (bst l n i b) ≤ el l c ∧ (el l c = el l (bst l n i b) → bst l n i b ≤ c) := by
 induction n with
 | zero => intro i b hb h1 h; exact ⟨h1, hb, h⟩
 | succ n ih =>
  intro i b hb h1 h
  rw [bst, if_neg (by omega), show i + (n + 1) = i + 1 + n by omega]
  by_cases hlt : el l i < el l b
  ·rw [if_pos hlt]
   refine ih (i + 1) i (by omega) (by omega) (fun c c1 c2 => ?_)
   by_cases hc : c = i
   ·subst hc; exact ⟨Nat.le_refl _, fun _ => Nat.le_refl _⟩
   ·have := h c c1 (by omega)
    exact ⟨by omega, fun e => by omega⟩
  ·rw [if_neg hlt]
   refine ih (i + 1) b (by omega) h1 (fun c c1 c2 => ?_)
   by_cases hc : c = i
   ·subst hc; exact ⟨by omega, fun _ => by omega⟩
   ·exact h c c1 (by omega)
theorem bestOf_spec (l : List Int) : 1 ≤ bestOf l ∧ bestOf l ≤ 5 ∧ ∀ c, 1 ≤ c → c ≤ 5 → el l (bestOf l) ≤ el l c ∧ (el l c = el l (bestOf l) → bestOf l ≤ c) := by
 have h := bst_spec l 4 2 1 (by omega) (by omega) (fun c c1 c2 => by rw [show c = 1 by omega]; exact ⟨Nat.le_refl _, fun _ => Nat.le_refl _⟩)
 have e : bestOf l = bst l 4 2 1 := by unfold bestOf; rw [bst, if_pos rfl]
 rw [e]
 exact ⟨h.1, by omega, fun c c1 c2 => h.2.2 c c1 (by omega)⟩
/-- What Best answers. -/
def bestAns (l : List Int) : Int × Int := if chk l = 0 then ((bestOf l : Int), 0) else (0, chk l)
theorem awake_e : Ev (fun k => peristylelaw2_awake.f k) true := by
 have key : ∀ d, peristylelaw2_awake.f (30 + d) = some true := by
  intro d
  induction d with
  | zero => decide +kernel
  | succ d ih => exact peristylelaw2_awake.mono _ _ ih
 exact ⟨30, fun k hk => by
  have := key (k - 30)
  rwa [show 30 + (k - 30) = k by omega] at this⟩
/-- Bytes. -/
def Byt (s : List Int) : Prop := ∀ x ∈ s, 0 ≤ x ∧ x ≤ 255
theorem Byt.drop {s : List Int} (h : Byt s) (n : Nat) : Byt (s.drop n) := fun x hx => h x (List.mem_of_mem_drop hx)
theorem Byt.rc {s : List Int} (h : Byt s) : Byt (rc 8 0 0 s).2.1 := by
 obtain ⟨m, hm, _⟩ := rc_suf 8 0 0 s
 rw [hm]
 exact h.drop m
theorem rc_le (s : List Int) : (rc 8 0 0 s).2.1.length ≤ s.length := by
 obtain ⟨m, hm, _⟩ := rc_suf 8 0 0 s
 rw [hm, List.length_drop]
 omega
theorem byteB (s : List Int) (bad : Bool) (h : Byt s) : er_byte.f s bad = some (s.headD 0, s.tail, bad || s.isEmpty) := by
 cases s with
 | nil => simp [er_byte.f, wrap64]
 | cons b t =>
  have hb := h b (List.mem_cons_self ..)
  simp [er_byte.f, w64 (show -9223372036854775808 ≤ b by omega) (show b ≤ 9223372036854775807 by omega)]
theorem rcB_ev (bad : Bool) (m : Nat) : ∀ (i : Nat) (v : Int) (s : List Int), i + m = 8 → 0 ≤ v → v < 128 ^ i → Byt s → Ev (fun k => er_count.l0 k v (i : Int) s bad) ((rc m i v s).1, (rc m i v s).2.1, bad || (rc m i v s).2.2) := by
 induction m with
 | zero =>
  intro i v s hi h0 hv hs
  refine Ev.step (fun k => by rw [er_count.l0]) (ev_neg (by omega) ?_)
  exact ev_eq (ev_some _) (by simp [rc])
 | succ m ih =>
  intro i v s hi h0 hv hs
  have e7 : wrap64 (7 * (i : Int)) = ((7 * i : Nat) : Int) := by rw [w64 (by omega) (by omega)]; omega
  refine Ev.step (fun k => by rw [er_count.l0]) (ev_pos (by omega) ?_)
  rw [byteB s bad hs, e7]
  cases s with
  | nil =>
   refine Ev.bind (ev_some _) (ev_pos (by omega) (ev_pos (show (0 : Int) < 128 by omega) ?_))
   show Ev (fun k => some (Go.bits .or .i64 v (shl .i64 (Go.bits .and .i64 0 127) ((7 * i : Nat) : Int)), ([] : List Int), bad || true)) (v, [], bad || true)
   rw [orshl0 h0 hv (by omega)]
   exact ev_some _
  | cons b t =>
   have hb := hs b (List.mem_cons_self ..)
   refine Ev.bind (ev_some _) (ev_pos (by omega) ?_)
   show Ev (fun k => if b < 128 then some (Go.bits .or .i64 v (shl .i64 (Go.bits .and .i64 b 127) ((7 * i : Nat) : Int)), t, bad || false) else er_count.l0 k (Go.bits .or .i64 v (shl .i64 (Go.bits .and .i64 b 127) ((7 * i : Nat) : Int))) (wrap64 ((i : Int) + 1)) t (bad || false)) ((rc (m + 1) i v (b :: t)).1, (rc (m + 1) i v (b :: t)).2.1, bad || (rc (m + 1) i v (b :: t)).2.2)
   rw [orshl h0 hv hb.1 hb.2 (by omega), Bool.or_false]
   by_cases hlt : b < 128
   ·exact ev_pos hlt (ev_eq (ev_some _) (by rw [rc, if_pos hlt]; simp))
   ·refine ev_neg hlt ?_
    rw [rc, if_neg hlt, w64 (by omega) (by omega)]
    have hst := v_step (b := b) h0 hv
    exact ih (i + 1) _ t (by omega) hst.1 hst.2 (fun x hx => hs x (List.mem_cons_of_mem _ hx))
/-- What a count leaves. -/
def ct (s : List Int) (bad : Bool) : Int × List Int × Bool := ((rc 8 0 0 s).1, (rc 8 0 0 s).2.1, bad || (rc 8 0 0 s).2.2)
theorem ct_ev {s : List Int} (bad : Bool) (hs : Byt s) : Ev (fun k => er_count.f k s bad) (ct s bad) :=
 rcB_ev bad 8 0 0 s rfl (by omega) (by simp) hs
theorem ct_val (s : List Int) (bad : Bool) : 0 ≤ (ct s bad).1 ∧ (ct s bad).1 < 72057594037927936 := by
 have := rc_val 8 0 0 s (by omega) (by simp)
 exact ⟨this.1, by show (rc 8 0 0 s).1 < _; omega⟩
theorem ct_byt {s : List Int} {bad : Bool} (h : Byt s) : Byt (ct s bad).2.1 := h.rc
theorem ct_bad (s : List Int) : (ct s true).2.2 = true := rfl
theorem ct_cnt {n : Nat} (rest : List Int) (hn : n < 72057594037927936) : ct (cnt n ++ rest) false = ((n : Int), rest, false) := by
 unfold ct
 rw [rc_cnt8 rest hn]
 rfl
/-- A count as a number. -/
def unz (v : Int) : Int := if v % 2 = 1 then -((v + 1) / 2) else v / 2
theorem unz_zig (v : Int) : unz (zig v) = v := by
 unfold unz
 by_cases h : v < 0
 ·rw [zig_neg h]; split <;> omega
 ·rw [zig_pos h]; split <;> omega
theorem unz_le {v : Int} (h0 : 0 ≤ v) (h1 : v < 72057594037927936) : -36028797018963968 ≤ unz v ∧ unz v ≤ 36028797018963968 := by
 unfold unz
 split <;> omega
/-- What a number leaves. -/
def nt (s : List Int) (bad : Bool) : Int × List Int × Bool := (unz (ct s bad).1, (ct s bad).2.1, (ct s bad).2.2)
theorem nt_ev {s : List Int} (bad : Bool) (hs : Byt s) : Ev (fun k => er_number.f k s bad) (nt s bad) := by
 unfold er_number.f nt
 refine Ev.bind (ct_ev bad hs) ?_
 have hv := ct_val s bad
 have et : Int.tmod (ct s bad).1 2 = (ct s bad).1 % 2 := Int.tmod_eq_emod_of_nonneg hv.1
 unfold unz
 by_cases h : (ct s bad).1 % 2 = 1
 ·rw [if_pos h]
  refine ev_pos (by rw [et]; exact h) (ev_eq (ev_some _) ?_)
  have e1 : wrap64 (-wrap64 ((ct s bad).1 + 1)) = -((ct s bad).1 + 1) := by rw [w64 (n := (ct s bad).1 + 1) (by omega) (by omega), w64 (by omega) (by omega)]
  rw [e1, Int.neg_tdiv, Int.tdiv_eq_ediv_of_nonneg (by omega), w64 (by omega) (by omega)]
 ·rw [if_neg h]
  refine ev_neg (by rw [et]; exact h) (ev_eq (ev_some _) ?_)
  rw [Int.tdiv_eq_ediv_of_nonneg hv.1, w64 (by omega) (by omega)]
theorem nt_val (s : List Int) (bad : Bool) : -36028797018963968 ≤ (nt s bad).1 ∧ (nt s bad).1 ≤ 36028797018963968 := unz_le (ct_val s bad).1 (ct_val s bad).2
theorem nt_byt {s : List Int} {bad : Bool} (h : Byt s) : Byt (nt s bad).2.1 := h.rc
theorem nt_num {v : Int} (rest : List Int) (h0 : -4000000000000000 ≤ v) (h1 : v ≤ 4000000000000000) : nt (num v ++ rest) false = (v, rest, false) := by
 unfold nt num
 rw [ct_cnt rest (zig_lt h0 h1)]
 simp only [unz_zig]
/-- What a length leaves. -/
def lt_ (s : List Int) (bad : Bool) : Int × List Int × Bool := if (ct s bad).1 > 2000 then (0, (ct s bad).2.1, true) else ct s bad
theorem lt_ev {s : List Int} (bad : Bool) (hs : Byt s) : Ev (fun k => er_long.f k s bad) (lt_ s bad) := by
 unfold er_long.f lt_
 refine Ev.bind (ct_ev bad hs) ?_
 by_cases h : (ct s bad).1 > 2000
 ·rw [if_pos h, if_pos h]; exact ev_some _
 ·rw [if_neg h, if_neg h]; exact ev_some _
theorem lt_val (s : List Int) (bad : Bool) : 0 ≤ (lt_ s bad).1 ∧ (lt_ s bad).1 ≤ 2000 := by
 have := ct_val s bad
 unfold lt_
 split
 ·exact ⟨by simp, by simp⟩
 ·exact ⟨this.1, by omega⟩
theorem lt_byt {s : List Int} {bad : Bool} (h : Byt s) : Byt (lt_ s bad).2.1 := by
 unfold lt_
 split
 ·exact ct_byt (bad := bad) h
 ·exact ct_byt (bad := bad) h
theorem lt_cnt {n : Nat} (rest : List Int) (hn : n ≤ 2000) : lt_ (cnt n ++ rest) false = ((n : Int), rest, false) := by
 unfold lt_
 rw [ct_cnt rest (by omega), if_neg (by simp; omega)]
def bitN (s : List Int) (p : Nat) : Int := s.getD (p / 8) 0 / 2 ^ (7 - p % 8) % 2
/-- The number of j bits from bit p on. -/
def bv (s : List Int) (p : Nat) : Nat → Int
 | 0 => 0
 | j + 1 => 2 * bv s p j + bitN s (p + j)
theorem bv_bound (s : List Int) (p j : Nat) : 0 ≤ bv s p j ∧ bv s p j < 2 ^ j := by
 induction j with
 | zero => simp [bv]
 | succ j ih =>
  have h : 0 ≤ bitN s (p + j) ∧ bitN s (p + j) ≤ 1 := by unfold bitN; omega
  rw [bv, Int.pow_succ]
  omega
theorem bit_eq {s : List Int} (h : Byt s) (p : Nat) : wrap64 (Go.bits .and .u8 (shr .u8 (rd s ((p / 8 : Nat) : Int)) ((7 - p % 8 : Nat) : Int)) 1) = bitN s p := by
 rw [rdD]
 unfold shr bitN
 have hb : 0 ≤ s.getD (p / 8) 0 ∧ s.getD (p / 8) 0 ≤ 255 := by
  by_cases hl : p / 8 < s.length
  ·exact h _ (mem_getD hl)
  ·rw [getD_out (by omega)]; omega
 rw [Int.toNat_natCast, Nat.min_eq_left (show 7 - p % 8 ≤ IntKind.u8.bits by show 7 - p % 8 ≤ 8; omega)]
 have hp : (0 : Int) < 2 ^ (7 - p % 8) := Int.pow_pos (by omega)
 have h2 : 0 ≤ s.getD (p / 8) 0 / 2 ^ (7 - p % 8) := Int.ediv_nonneg hb.1 (by omega)
 have h3 : s.getD (p / 8) 0 / 2 ^ (7 - p % 8) ≤ s.getD (p / 8) 0 := Int.ediv_le_self _ hb.1
 rw [show Go.bits .and .u8 (s.getD (p / 8) 0 / 2 ^ (7 - p % 8)) 1 = s.getD (p / 8) 0 / 2 ^ (7 - p % 8) % 2 from bits_mask .u8 8 (by decide) wraps_u8 1 (by decide) _ h2 (by omega)]
 rw [w64 (by omega) (by omega)]
theorem td8 (n : Nat) (h : n ≤ 1000000000) : wrap64 (Int.tdiv (n : Int) 8) = ((n / 8 : Nat) : Int) := by
 rw [Int.tdiv_eq_ediv_of_nonneg (by omega), w64 (by omega) (by omega)]
 omega
theorem tm8 (n : Nat) : wrap64 (7 - Int.tmod (n : Int) 8) = ((7 - n % 8 : Nat) : Int) := by
 rw [tmod8, w64 (by omega) (by omega)]
 omega
/-- So many numbers of so many bits. -/
def ups (s : List Int) (m w : Nat) : List Int := (List.range m).map fun i => bv s (i * w) w
theorem ups_len (s : List Int) (m w : Nat) : (ups s m w).length = m := by simp [ups]
theorem pk_l1 {s : List Int} (hs : Byt s) (bad : Bool) (w : Nat) (hw : w ≤ 60) (x27 x28 : Int) (i : Nat) (p : Nat) (hp : p + w ≤ 1000000) (hl : p + w ≤ 8 * s.length) (r : List Int × List Int × Bool) (d : Nat) : ∀ (j : Nat) (row : List Int), j + d = w → i < row.length → row.length ≤ 100000 → row.getD i 0 = bv s p j →
 Ev (fun k => er_packed.l0 k (w : Int) (row.set i (bv s p w)) ((p + w : Nat) : Int) x27 (wrap64 (x28 + 1)) s bad) r →
 Ev (fun k => er_packed.l1 k (w : Int) row ((p + j : Nat) : Int) (i : Int) x27 x28 (w : Int) (j : Int) s bad) r := by
 induction d with
 | zero =>
  intro j row hj hi hr hv h
  obtain rfl : j = w := by omega
  refine Ev.step (fun k => by rw [er_packed.l1]) (ev_neg (by omega) ?_)
  have e : row.set i (bv s p j) = row := by
   rw [← hv]
   refine List.ext_getElem? fun q => ?_
   rw [List.getElem?_set]
   by_cases hq : i = q
   ·subst hq
    rw [if_pos rfl, if_pos hi]
    simp [List.getD, hi]
   ·rw [if_neg hq]
  rw [e] at h
  exact h
 | succ d ih =>
  intro j row hj hi hr hv h
  have hb := bv_bound s p j
  have h60 : (2 : Int) ^ j ≤ 2 ^ 60 := by
   have := Nat.pow_le_pow_right (n := 2) (by omega) (show j ≤ 60 by omega)
   exact_mod_cast this
  have hbit : 0 ≤ bitN s (p + j) ∧ bitN s (p + j) ≤ 1 := by unfold bitN; omega
  refine Ev.step (fun k => by rw [er_packed.l1]) ?_
  rw [td8 (p + j) (by omega), tm8, bit_eq hs, rdD, hv, w64 (n := 2 * bv s p j) (by omega) (by omega), w64 (n := 2 * bv s p j + bitN s (p + j)) (by omega) (by omega), w64 (n := ((p + j : Nat) : Int) + 1) (by omega) (by omega), w64 (n := (j : Int) + 1) (by omega) (by omega)]
  refine ev_pos (by omega) (ev_pos (by omega) (ev_pos (by omega) (ev_pos (by omega) (ev_pos (by omega) (ev_pos (by omega) ?_)))))
  rw [Int.toNat_natCast]
  have := ih (j + 1) (row.set i (2 * bv s p j + bitN s (p + j))) (by omega) (by simpa using hi) (by simpa using hr) (by simp [List.getD, hi, bv]) (by rw [List.set_set]; exact h)
  exact this
theorem pk_ev {s : List Int} (hs : Byt s) (bad : Bool) {m w : Nat} (hm : m ≤ 2000) (hw : w ≤ 60) : Ev (fun k => er_packed.f k s bad (m : Int) (w : Int)) (if s.length = (m * w + 7) / 8 then (ups s m w, [], bad) else ([], s, true)) := by
 have hmul : m * w ≤ 2000 * 60 := Nat.mul_le_mul hm hw
 have hT : wrap64 (Int.tdiv (wrap64 (wrap64 ((m : Int) * (w : Int)) + 7)) 8) = (((m * w + 7) / 8 : Nat) : Int) := by
  rw [show (m : Int) * (w : Int) = ((m * w : Nat) : Int) by rw [Int.natCast_mul], w64 (n := ((m * w : Nat) : Int)) (by omega) (by omega), w64 (n := ((m * w : Nat) : Int) + 7) (by omega) (by omega), Int.tdiv_eq_ediv_of_nonneg (by omega), w64 (by omega) (by omega)]
  omega
 unfold er_packed.f
 rw [hT]
 by_cases hl : s.length = (m * w + 7) / 8
 ·rw [if_pos hl]
  refine ev_pos (by omega) (ev_pos (by omega) (ev_pos (by omega) (Ev.bind (ev_some _) ?_)))
  rw [Int.toNat_natCast, List.length_replicate]
  have key : ∀ d i, i ≤ m → m - i ≤ d → Ev (fun k => er_packed.l0 k (w : Int) (((List.range i).map fun q => bv s (q * w) w) ++ List.replicate (m - i) 0) ((i * w : Nat) : Int) (m : Int) (i : Int) s bad) (ups s m w, [], bad) := by
   intro d
   induction d with
   | zero =>
    intro i hi hd
    refine Ev.step (fun k => by rw [er_packed.l0]) (ev_neg (by omega) ?_)
    rw [show m - i = 0 by omega, List.replicate_zero, List.append_nil, show i = m by omega]
    exact ev_some _
   | succ d ih =>
    intro i hi hd
    refine Ev.step (fun k => by rw [er_packed.l0]) ?_
    by_cases hlt : i < m
    ·refine ev_pos (by omega) ?_
     have hmul2 : (i + 1) * w ≤ m * w := Nat.mul_le_mul (by omega) (Nat.le_refl _)
     rw [Nat.add_mul, Nat.one_mul] at hmul2
     have hlen : (((List.range i).map fun q => bv s (q * w) w) ++ List.replicate (m - i) 0).length = m := by simp; omega
     have := pk_l1 hs bad w hw (m : Int) (i : Int) i (i * w) (by omega) (by omega) (ups s m w, [], bad) w 0 (((List.range i).map fun q => bv s (q * w) w) ++ List.replicate (m - i) 0) (by omega) (by omega) (by omega) ?_ ?_
     ·exact this
     ·rw [List.getD, List.getElem?_append_right (by simp), List.getElem?_replicate, bv]
      split <;> rfl
     ·rw [w64 (by omega) (by omega)]
      have hn := ih (i + 1) (by omega) (by omega)
      rw [Nat.add_mul, Nat.one_mul] at hn
      have e : (((List.range i).map fun q => bv s (q * w) w) ++ List.replicate (m - i) 0).set i (bv s (i * w) w) = ((List.range (i + 1)).map fun q => bv s (q * w) w) ++ List.replicate (m - (i + 1)) 0 := by
       rw [List.set_append_right _ _ (by simp), List.range_succ, List.map_append, show m - i = (m - (i + 1)) + 1 by omega, List.replicate_succ]
       simp
      rw [e]
      exact hn
    ·refine ev_neg (by omega) ?_
     rw [show m - i = 0 by omega, List.replicate_zero, List.append_nil, show i = m by omega]
     exact ev_some _
  have := key m 0 (by omega) (by omega)
  simpa using this
 ·rw [if_neg hl]
  exact ev_neg (by omega) (ev_some _)
theorem ups_range {s : List Int} {m w : Nat} : ∀ v ∈ ups s m w, 0 ≤ v ∧ v < 2 ^ w := by
 intro v hv
 obtain ⟨i, _, rfl⟩ := List.mem_map.1 hv
 exact bv_bound _ _ _
/-- What was packed is read. -/
theorem bitN_pb {bs : List Int} (hb : ∀ b ∈ bs, 0 ≤ b ∧ b ≤ 1) {p : Nat} (hp : p < bs.length) : bitN (pb bs) p = bs.getD p 0 := by
 have e : (pb bs).getD (p / 8) 0 = byteN bs (p / 8) := by simp [List.getD, pb_get (show p / 8 < (bs.length + 7) / 8 by omega)]
 unfold bitN
 rw [e]
 have hq : p = 8 * (p / 8) + p % 8 := by omega
 have h0 := getD_bit hb (8 * (p / 8))
 have h1 := getD_bit hb (8 * (p / 8) + 1)
 have h2 := getD_bit hb (8 * (p / 8) + 2)
 have h3 := getD_bit hb (8 * (p / 8) + 3)
 have h4 := getD_bit hb (8 * (p / 8) + 4)
 have h5 := getD_bit hb (8 * (p / 8) + 5)
 have h6 := getD_bit hb (8 * (p / 8) + 6)
 have h7 := getD_bit hb (8 * (p / 8) + 7)
 have hc : p % 8 = 0 ∨ p % 8 = 1 ∨ p % 8 = 2 ∨ p % 8 = 3 ∨ p % 8 = 4 ∨ p % 8 = 5 ∨ p % 8 = 6 ∨ p % 8 = 7 := by omega
 rw [show bs.getD p 0 = bs.getD (8 * (p / 8) + p % 8) 0 by rw [← hq]]
 unfold byteN
 generalize p / 8 = I at *
 rcases hc with h | h | h | h | h | h | h | h <;> rw [h] <;> (try simp only [Nat.add_zero]) <;> omega
theorem allbits_get {l : List Int} {w i j : Nat} (hi : i < l.length) (hj : j < w) : (allbits l w).getD (i * w + j) 0 = l.getD i 0 / 2 ^ (w - 1 - j) % 2 := by
 have hb : ∀ (v : Int) (w j : Nat), j < w → (bitsOf v w).getD j 0 = v / 2 ^ (w - 1 - j) % 2 := by
  intro v w
  induction w with
  | zero => intro j h; omega
  | succ w ih =>
   intro j h
   cases j with
   | zero => simp [bitsOf, List.getD]
   | succ j =>
    have := ih j (by omega)
    rw [show w + 1 - 1 - (j + 1) = w - 1 - j by omega, ← this]
    simp [bitsOf, List.getD]
 induction l generalizing i with
 | nil => simp at hi
 | cons v l ih =>
  unfold allbits
  rw [List.flatMap_cons]
  cases i with
  | zero =>
   rw [Nat.zero_mul, Nat.zero_add, List.getD, List.getElem?_append_left (by rw [bitsOf_len]; exact hj)]
   have := hb v w j hj
   rw [List.getD] at this
   simpa using this
  | succ i =>
   have := ih (i := i) (by simpa using hi)
   rw [List.getD, List.getElem?_append_right (by rw [bitsOf_len, Nat.add_mul]; omega), bitsOf_len, show (i + 1) * w + j - w = i * w + j by rw [Nat.add_mul]; omega]
   rw [List.getD] at this
   simpa [allbits] using this
theorem ups_pb {l : List Int} {w : Nat} (hv : ∀ v ∈ l, 0 ≤ v ∧ v < 2 ^ w) : ups (pb (allbits l w)) l.length w = l := by
 refine List.ext_getElem? fun i => ?_
 by_cases hi : i < l.length
 ·have hm : i * w + w ≤ l.length * w := by
   have : (i + 1) * w ≤ l.length * w := Nat.mul_le_mul (by omega) (Nat.le_refl _)
   rwa [Nat.add_mul, Nat.one_mul] at this
  have hvi := hv _ (mem_getD hi)
  have key : ∀ j, j ≤ w → bv (pb (allbits l w)) (i * w) j = l.getD i 0 / 2 ^ (w - j) := by
   intro j
   induction j with
   | zero =>
    intro _
    rw [bv, Nat.sub_zero, Int.ediv_eq_zero_of_lt hvi.1 hvi.2]
   | succ j ih =>
    intro hj
    rw [bv, ih (by omega), bitN_pb (allbits_bits _ _) (by rw [allbits_len]; omega), allbits_get hi (by omega)]
    rw [show w - j = (w - (j + 1)) + 1 by omega, Int.pow_succ, show w - 1 - j = w - (j + 1) by omega]
    have hp : (0 : Int) < 2 ^ (w - (j + 1)) := Int.pow_pos (by omega)
    rw [← Int.ediv_ediv_of_nonneg (by omega)]
    omega
  have h2 := key w (Nat.le_refl _)
  rw [Nat.sub_self, Int.pow_zero, Int.ediv_one] at h2
  simp only [ups, List.getElem?_map, List.getElem?_range hi, Option.map_some, h2]
  simp [List.getD, hi]
 ·rw [List.getElem?_eq_none (by rw [ups_len]; omega), List.getElem?_eq_none (by omega)]
abbrev Ans := List Int × List Int × Bool
theorem v_bad (c many : Int) (out : List Int) (last : Int) (s : List Int) : Ev (fun k => er_values.l0 k c many out last s true) (out, s, true) := by
 refine Ev.step (fun k => by rw [er_values.l0]) ?_
 have hj : Ev (fun k => er_values.j2 k c many out last false s true) (out, s, true) := Ev.step (fun k => by rw [er_values.j2]) (ev_neg (by simp) (ev_some _))
 by_cases h : (out.length : Int) < many
 ·exact ev_pos h hj
 ·exact ev_neg h hj
theorem v_end (c many : Int) (out : List Int) (last : Int) (s : List Int) (h : ¬ (out.length : Int) < many) (bad : Bool) : Ev (fun k => er_values.l0 k c many out last s bad) (out, s, bad) :=
 Ev.step (fun k => by rw [er_values.l0]) (ev_neg h (Ev.step (fun k => by rw [er_values.j2]) (ev_neg (by simp) (ev_some _))))
/-- One value more. -/
theorem v_one {c : Int} {many : Int} {out : List Int} {last : Int} {s : List Int} (hs : Byt s) (h : (out.length : Int) < many) (hl : out.length ≤ 2000) (hp : -1000000000000000 ≤ last ∧ last ≤ 1000000000000000) {r : Ans}
 (v : Int) (hv : v = if c = 5 then (nt s false).1 + last else (nt s false).1)
 (hr : Ev (fun k => er_values.l0 k c many (out ++ [v]) v (nt s false).2.1 (if inR v then (nt s false).2.2 else true)) r) :
 Ev (fun k => er_values.l0 k c many out last s false) r := by
 have hn := nt_val s false
 have hw : wrap64 ((nt s false).1 + last) = (nt s false).1 + last := w64 (by omega) (by omega)
 refine Ev.step (fun k => by rw [er_values.l0]) (ev_pos h ?_)
 refine Ev.step (fun k => by rw [er_values.j2]) (ev_pos (show (!false) = true from rfl) (Ev.bind (nt_ev false hs) ?_))
 by_cases h5 : c = 5
 ·rw [if_pos h5] at hv
  refine ev_pos h5 ?_
  rw [hw, ← hv, in_eq]
  refine Ev.bind (ev_some _) ?_
  by_cases hi : inR v = true
  ·rw [hi, if_pos rfl] at hr
   exact ev_pos hi (ev_pos (by omega) hr)
  ·rw [eq_false_of_ne_true hi, if_neg (by simp)] at hr
   exact ev_neg hi (ev_pos (by omega) hr)
 ·rw [if_neg h5] at hv
  refine ev_neg h5 ?_
  rw [← hv, in_eq]
  refine Ev.bind (ev_some _) ?_
  by_cases hi : inR v = true
  ·rw [hi, if_pos rfl] at hr
   exact ev_pos hi (ev_pos (by omega) hr)
  ·rw [eq_false_of_ne_true hi, if_neg (by simp)] at hr
   exact ev_neg hi (ev_pos (by omega) hr)
theorem inR_iff (v : Int) : inR v = true ↔ -1000000000000000 ≤ v ∧ v ≤ 1000000000000000 := by simp [inR]
theorem v_total (c : Int) (n : Nat) : ∀ (out : List Int) (last : Int) (s : List Int), out.length + n ≤ 2000 → (-1000000000000000 ≤ last ∧ last ≤ 1000000000000000) → Byt s →
 ∃ r : Ans, Ev (fun k => er_values.l0 k c ((out.length + n : Nat) : Int) out last s false) r := by
 induction n with
 | zero =>
  intro out last s hl hp hs
  exact ⟨_, v_end c _ out last s (by omega) false⟩
 | succ n ih =>
  intro out last s hl hp hs
  obtain ⟨v, hv⟩ : ∃ v, v = if c = 5 then (nt s false).1 + last else (nt s false).1 := ⟨_, rfl⟩
  have key : ∃ r : Ans, Ev (fun k => er_values.l0 k c ((out.length + (n + 1) : Nat) : Int) (out ++ [v]) v (nt s false).2.1 (if inR v then (nt s false).2.2 else true)) r := by
   by_cases hi : inR v = true
   ·rw [if_pos hi]
    cases hb : (nt s false).2.2 with
    | true => exact ⟨_, v_bad _ _ _ _ _⟩
    | false =>
     obtain ⟨r, hr⟩ := ih (out ++ [v]) v (nt s false).2.1 (by simp; omega) ((inR_iff v).1 hi) (nt_byt hs)
     rw [List.length_append, List.length_singleton, show out.length + 1 + n = out.length + (n + 1) by omega] at hr
     exact ⟨r, hr⟩
   ·rw [if_neg hi]
    exact ⟨_, v_bad _ _ _ _ _⟩
  obtain ⟨r, hr⟩ := key
  exact ⟨r, v_one hs (by omega) (by omega) hp v hv hr⟩
theorem v_nums (rest : List Int) (hrest : Byt rest) : ∀ (l out : List Int) (last : Int), out.length + l.length ≤ 2000 → (-1000000000000000 ≤ last ∧ last ≤ 1000000000000000) → (∀ v ∈ l, -1000000000000000 ≤ v ∧ v ≤ 1000000000000000) → Byt (nums l ++ rest) →
 Ev (fun k => er_values.l0 k 1 ((out.length + l.length : Nat) : Int) out last (nums l ++ rest) false) (out ++ l, rest, false)
 | [], out, last, hl, hp, hv, hb => by
  have := v_end 1 ((out.length + 0 : Nat) : Int) out last rest (by omega) false
  simpa [nums] using this
 | v :: l, out, last, hl, hp, hv, hb => by
  have hm := hv v (List.mem_cons_self ..)
  have hl' : out.length + (l.length + 1) ≤ 2000 := hl
  have e : nums (v :: l) ++ rest = num v ++ (nums l ++ rest) := by simp [nums, List.append_assoc]
  have hb2 : Byt (nums l ++ rest) := fun x hx => hb x (by rw [e]; exact List.mem_append_right _ hx)
  have hnt := nt_num (nums l ++ rest) (show -4000000000000000 ≤ v by omega) (show v ≤ 4000000000000000 by omega)
  rw [← e] at hnt
  have ih := v_nums rest hrest l (out ++ [v]) v (by simp; omega) hm (fun x hx => hv x (List.mem_cons_of_mem _ hx)) hb2
  rw [List.length_append, List.length_singleton, show out.length + 1 + l.length = out.length + (l.length + 1) by omega, List.append_assoc] at ih
  refine v_one hb (by simp; omega) (by omega) hp v (by rw [hnt]; rfl) ?_
  rw [hnt, if_pos ((inR_iff v).2 hm)]
  exact ih
theorem v_dlt (rest : List Int) (hrest : Byt rest) : ∀ (l out : List Int) (last : Int), out.length + l.length ≤ 2000 → (-1000000000000000 ≤ last ∧ last ≤ 1000000000000000) → (∀ v ∈ l, -1000000000000000 ≤ v ∧ v ≤ 1000000000000000) → Byt (dlt last l ++ rest) →
 Ev (fun k => er_values.l0 k 5 ((out.length + l.length : Nat) : Int) out last (dlt last l ++ rest) false) (out ++ l, rest, false)
 | [], out, last, hl, hp, hv, hb => by
  have := v_end 5 ((out.length + 0 : Nat) : Int) out last rest (by omega) false
  simpa [dlt] using this
 | v :: l, out, last, hl, hp, hv, hb => by
  have hm := hv v (List.mem_cons_self ..)
  have hl' : out.length + (l.length + 1) ≤ 2000 := hl
  have e : dlt last (v :: l) ++ rest = num (v - last) ++ (dlt v l ++ rest) := by simp [dlt, List.append_assoc]
  have hb2 : Byt (dlt v l ++ rest) := fun x hx => hb x (by rw [e]; exact List.mem_append_right _ hx)
  have hnt := nt_num (dlt v l ++ rest) (show -4000000000000000 ≤ v - last by omega) (show v - last ≤ 4000000000000000 by omega)
  rw [← e] at hnt
  have ih := v_dlt rest hrest l (out ++ [v]) v (by simp; omega) hm (fun x hx => hv x (List.mem_cons_of_mem _ hx)) hb2
  rw [List.length_append, List.length_singleton, show out.length + 1 + l.length = out.length + (l.length + 1) by omega, List.append_assoc] at ih
  refine v_one hb (by simp; omega) (by omega) hp v (by rw [hnt]; simp) ?_
  rw [hnt, if_pos ((inR_iff v).2 hm)]
  exact ih
theorem r_bad (many : Int) (out : List Int) (s : List Int) : Ev (fun k => er_runs.l0 k many out s true) (out, s, true) := by
 refine Ev.step (fun k => by rw [er_runs.l0]) ?_
 have hj : Ev (fun k => er_runs.j1 k many out false s true) (out, s, true) := Ev.step (fun k => by rw [er_runs.j1]) (ev_neg (by simp) (ev_some _))
 by_cases h : (out.length : Int) < many
 ·exact ev_pos h hj
 ·exact ev_neg h hj
theorem r_l1bad (many : Int) (out : List Int) (v n j : Int) (s : List Int) : Ev (fun k => er_runs.l1 k many out v n j s true) (out, s, true) := by
 refine Ev.step (fun k => by rw [er_runs.l1]) ?_
 by_cases h : j < n
 ·exact ev_pos h (ev_pos rfl (r_bad _ _ _))
 ·exact ev_neg h (r_bad _ _ _)
theorem r_l1 (many : Int) (v : Int) (s : List Int) (r : Ans) (n : Nat) (d : Nat) : ∀ (j : Nat) (out : List Int), j + d = n → n ≤ 2000 → out.length + d ≤ 4000 → Ev (fun k => er_runs.l0 k many (out ++ List.replicate d v) s false) r → Ev (fun k => er_runs.l1 k many out v (n : Int) (j : Int) s false) r := by
 induction d with
 | zero =>
  intro j out hj hn ho h
  refine Ev.step (fun k => by rw [er_runs.l1]) (ev_neg (by omega) ?_)
  simpa using h
 | succ d ih =>
  intro j out hj hn ho h
  refine Ev.step (fun k => by rw [er_runs.l1]) (ev_pos (by omega) (ev_neg (by simp) (ev_pos (by omega) ?_)))
  rw [w64 (by omega) (by omega)]
  refine ih (j + 1) (out ++ [v]) (by omega) hn (by simp; omega) ?_
  simpa [List.replicate_succ] using h
/-- One run more. -/
theorem r_one {many : Nat} {out : List Int} {s : List Int} (hs : Byt s) (h : out.length < many) (hm : many ≤ 2000) {r : Ans} {v : Int} {n : Int} {s2 : List Int} {bad : Bool}
 (hv : v = (nt s false).1) (hc : ct (nt s false).2.1 (nt s false).2.2 = (n, s2, bad))
 (hr : (bad = true ∨ n = 0 ∨ n > (many : Int) - out.length) ∧ r = (out, s2, true) ∨ bad = false ∧ 0 < n ∧ n ≤ (many : Int) - out.length ∧ Ev (fun k => er_runs.l0 k (many : Int) (out ++ List.replicate n.toNat v) s2 false) r) :
 Ev (fun k => er_runs.l0 k (many : Int) out s false) r := by
 have hcv := ct_val (nt s false).2.1 (nt s false).2.2
 rw [hc] at hcv
 dsimp only at hcv
 refine Ev.step (fun k => by rw [er_runs.l0]) (ev_pos (by omega) ?_)
 refine Ev.step (fun k => by rw [er_runs.j1]) (ev_pos (show (!false) = true from rfl) (Ev.bind (nt_ev false hs) ?_))
 refine Ev.bind (ct_ev _ (nt_byt hs)) ?_
 rw [hc, ← hv]
 dsimp only
 have hj3 : ∀ b : Bool, (b = true → r = (out, s2, true)) → (b = false → Ev (fun k => er_runs.l1 k (many : Int) out v n 0 s2 false) r) → Ev (fun k => er_runs.j3 k (many : Int) out v n s2 b) r := by
  intro b h1 h2
  refine Ev.step (fun k => by rw [er_runs.j3]) ?_
  cases b with
  | true => rw [h1 rfl]; exact r_l1bad _ _ _ _ _ _
  | false => exact h2 rfl
 rw [w64 (n := (many : Int) - out.length) (by omega) (by omega)]
 have go : bad = false → 0 < n → n ≤ (many : Int) - out.length → Ev (fun k => er_runs.l1 k (many : Int) out v n 0 s2 false) r := by
  intro hb h0 h1
  rcases hr with ⟨h2, _⟩ | ⟨_, _, _, h2⟩
  ·rcases h2 with h2 | h2 | h2
   ·rw [hb] at h2; exact absurd h2 (by simp)
   ·omega
   ·omega
  ·obtain ⟨q, hq⟩ := Int.eq_ofNat_of_zero_le hcv.1
   rw [hq] at h2 ⊢
   rw [Int.toNat_natCast] at h2
   exact r_l1 _ v s2 r q q 0 out (by omega) (by omega) (by omega) h2
 have stop : (bad = true ∨ n = 0 ∨ n > (many : Int) - out.length) → r = (out, s2, true) := by
  intro h0
  rcases hr with ⟨_, h2⟩ | ⟨h1, h2, h3, _⟩
  ·exact h2
  ·rcases h0 with h0 | h0 | h0
   ·rw [h1] at h0; exact absurd h0 (by simp)
   ·omega
   ·omega
 by_cases h0 : n = 0
 ·exact ev_pos h0 (Ev.step (fun k => by rw [er_runs.j2]) (ev_pos rfl (hj3 true (fun _ => stop (Or.inr (Or.inl h0))) (fun h => by cases h))))
 ·refine ev_neg h0 (Ev.step (fun k => by rw [er_runs.j2]) ?_)
  by_cases hbig : n > (many : Int) - out.length
  ·exact ev_pos (by simpa using hbig) (hj3 true (fun _ => stop (Or.inr (Or.inr hbig))) (fun h => by cases h))
  ·exact ev_neg (by simpa using hbig) (hj3 bad (fun hb => stop (Or.inl hb)) (fun hb => go hb (by omega) (by omega)))
theorem r_total (many : Nat) (hm : many ≤ 2000) (n : Nat) : ∀ (out s : List Int), out.length ≤ many → many - out.length ≤ n → Byt s →
 ∃ r : Ans, Ev (fun k => er_runs.l0 k (many : Int) out s false) r := by
 have fin : ∀ (out s : List Int), ¬ out.length < many → ∃ r : Ans, Ev (fun k => er_runs.l0 k (many : Int) out s false) r := fun out s h =>
  ⟨(out, s, false), Ev.step (fun k => by rw [er_runs.l0]) (ev_neg (by omega) (Ev.step (fun k => by rw [er_runs.j1]) (ev_neg (by simp) (ev_some _))))⟩
 induction n with
 | zero => intro out s ho hn hs; exact fin out s (by omega)
 | succ n ih =>
  intro out s ho hn hs
  by_cases h : out.length < many
  ·obtain ⟨c, s2, bad, hc⟩ : ∃ c s2 bad, ct (nt s false).2.1 (nt s false).2.2 = (c, s2, bad) := ⟨_, _, _, rfl⟩
   have hcv := ct_val (nt s false).2.1 (nt s false).2.2
   have hby : Byt s2 := by have := ct_byt (bad := (nt s false).2.2) (nt_byt (bad := false) hs); rw [hc] at this; exact this
   rw [hc] at hcv
   dsimp only at hcv
   by_cases hx : bad = true ∨ c = 0 ∨ c > (many : Int) - out.length
   ·exact ⟨_, r_one hs h hm rfl hc (Or.inl ⟨hx, rfl⟩)⟩
   ·have hx' := not_or.1 hx
    have hx2 := not_or.1 hx'.2
    obtain ⟨r, hr⟩ := ih (out ++ List.replicate c.toNat (nt s false).1) s2 (by simp; omega) (by simp; omega) hby
    exact ⟨r, r_one hs h hm rfl hc (Or.inr ⟨by simpa using hx'.1, by omega, by omega, hr⟩)⟩
  ·exact fin out s h
theorem hdI_rep (b : Int) (l : List Int) : List.replicate (hdI b l) b ++ l.drop (hdI b l) = l := by
 induction l with
 | nil => simp [hdI]
 | cons c l ih =>
  unfold hdI
  split
  ·rename_i h
   subst h
   rw [List.replicate_succ, List.cons_append, List.drop_succ_cons, ih]
  ·simp
theorem r_rle (many : Nat) (hm : many ≤ 2000) (n : Nat) : ∀ (l out rest : List Int), l.length ≤ n → out.length + l.length = many → (∀ v ∈ l, -1000000000000000 ≤ v ∧ v ≤ 1000000000000000) → Byt (rle l ++ rest) →
 Ev (fun k => er_runs.l0 k (many : Int) out (rle l ++ rest) false) (out ++ l, rest, false) := by
 have fin : ∀ (out rest : List Int), ¬ out.length < many → Ev (fun k => er_runs.l0 k (many : Int) out rest false) (out, rest, false) := fun out s h =>
  Ev.step (fun k => by rw [er_runs.l0]) (ev_neg (by omega) (Ev.step (fun k => by rw [er_runs.j1]) (ev_neg (by simp) (ev_some _))))
 induction n with
 | zero =>
  intro l out rest hl ho hv hb
  have : l = [] := List.eq_nil_of_length_eq_zero (by omega)
  subst this
  rw [rle_nil, List.nil_append, List.append_nil]
  exact fin out rest (by simp at ho; omega)
 | succ n ih =>
  intro l out rest hl ho hv hb
  cases l with
  | nil =>
   rw [rle_nil, List.nil_append, List.append_nil]
   exact fin out rest (by simp at ho; omega)
  | cons b t =>
   have hm1 := hv b (List.mem_cons_self ..)
   have hle := hdI_le b t
   have ho' : out.length + (t.length + 1) = many := ho
   have hl' : t.length + 1 ≤ n + 1 := hl
   have e : rle (b :: t) ++ rest = num b ++ (cnt (hdI b t + 1) ++ (rle (t.drop (hdI b t)) ++ rest)) := by rw [rle_cons]; simp only [List.append_assoc]
   have hb2 : Byt (rle (t.drop (hdI b t)) ++ rest) := fun x hx => hb x (by rw [e]; exact List.mem_append_right _ (List.mem_append_right _ hx))
   have hnt := nt_num (cnt (hdI b t + 1) ++ (rle (t.drop (hdI b t)) ++ rest)) (show -4000000000000000 ≤ b by omega) (show b ≤ 4000000000000000 by omega)
   rw [← e] at hnt
   have hct : ct (nt (rle (b :: t) ++ rest) false).2.1 (nt (rle (b :: t) ++ rest) false).2.2 = (((hdI b t + 1 : Nat) : Int), rle (t.drop (hdI b t)) ++ rest, false) := by
    rw [hnt]
    exact ct_cnt _ (by omega)
   refine r_one hb (by omega) hm (v := b) (by rw [hnt]) hct (Or.inr ⟨rfl, by omega, by omega, ?_⟩)
   rw [Int.toNat_natCast]
   have := ih (t.drop (hdI b t)) (out ++ List.replicate (hdI b t + 1) b) rest (by simp; omega) (by simp; omega) (fun v h => hv v (List.mem_cons_of_mem _ (List.mem_of_mem_drop h))) hb2
   rw [List.append_assoc, List.replicate_succ, List.cons_append, hdI_rep] at this
   rw [List.replicate_succ]
   exact this
theorem d_l1 {n : Int} {l : List Int} (s : List Int) (bad : Bool) (hl : (l.length : Int) = n) (u : List Int) (hu : u.length ≤ 2000) (h0 : ∀ q ∈ u, 0 ≤ q) (d : Nat) : ∀ (i : Nat) (pre : List Int), pre.length = i → i ≤ u.length → u.length - i ≤ d →
 (∃ r : Ans, Ev (fun k => er_dict.l1 k n l (pre ++ u.drop i) (u.length : Int) (i : Int) s bad) r) ∧
 ((∀ q ∈ u, q < n) → Ev (fun k => er_dict.l1 k n l (pre ++ u.drop i) (u.length : Int) (i : Int) s bad) (pre ++ (u.drop i).map (rd l), s, bad)) := by
 induction d with
 | zero =>
  intro i pre hp hi hd
  have hf : Ev (fun k => er_dict.l1 k n l (pre ++ u.drop i) (u.length : Int) (i : Int) s bad) (pre ++ (u.drop i).map (rd l), s, bad) := by
   refine Ev.step (fun k => by rw [er_dict.l1]) (ev_neg (by omega) ?_)
   rw [List.drop_eq_nil_of_le (by omega)]
   exact ev_some _
  exact ⟨⟨_, hf⟩, fun _ => hf⟩
 | succ d ih =>
  intro i pre hp hi hd
  by_cases hlt : i < u.length
  ·have hm := mem_getD hlt
   have hq0 := h0 _ hm
   have hlen : (pre ++ u.drop i).length = u.length := by simp; omega
   have hrd : rd (pre ++ u.drop i) (i : Int) = u.getD i 0 := by
    rw [rdD, List.getD, List.getElem?_append_right (by omega), hp, Nat.sub_self, List.getElem?_drop, Nat.add_zero]
    rfl
   have hset : (pre ++ u.drop i).set i (rd l (u.getD i 0)) = (pre ++ [rd l (u.getD i 0)]) ++ u.drop (i + 1) := by
    rw [List.set_append_right _ _ (by omega), hp, Nat.sub_self, getD_drop_head (d := 0) hlt, List.set_cons_zero, List.append_assoc]
    rfl
   obtain ⟨⟨r, hr⟩, h2⟩ := ih (i + 1) (pre ++ [rd l (u.getD i 0)]) (by simp [hp]) (by omega) (by omega)
   have head : ∀ r : Ans, u.getD i 0 < n → Ev (fun k => er_dict.l1 k n l (pre ++ [rd l (u.getD i 0)] ++ u.drop (i + 1)) (u.length : Int) ((i + 1 : Nat) : Int) s bad) r → Ev (fun k => er_dict.l1 k n l (pre ++ u.drop i) (u.length : Int) (i : Int) s bad) r := by
    intro r hq h
    refine Ev.step (fun k => by rw [er_dict.l1]) ?_
    rw [hrd, Int.toNat_natCast, hset, w64 (by omega) (by omega)]
    exact ev_pos (by omega) (ev_pos (by omega) (ev_pos (by omega) (ev_neg (by omega) (ev_pos (by omega) (ev_pos (by omega) h)))))
   constructor
   ·by_cases hq : u.getD i 0 < n
    ·exact ⟨r, head r hq hr⟩
    ·refine ⟨([], s, true), Ev.step (fun k => by rw [er_dict.l1]) ?_⟩
     rw [hrd]
     exact ev_pos (by omega) (ev_pos (by omega) (ev_pos (by omega) (ev_pos (by omega) (ev_some _))))
   ·intro hall
    have := head _ (hall _ hm) (h2 hall)
    rw [getD_drop_head (d := 0) hlt, List.map_cons]
    rw [getD_drop_head (d := 0) hlt, List.append_assoc] at this
    simpa using this
  ·have hf : Ev (fun k => er_dict.l1 k n l (pre ++ u.drop i) (u.length : Int) (i : Int) s bad) (pre ++ (u.drop i).map (rd l), s, bad) := by
    refine Ev.step (fun k => by rw [er_dict.l1]) (ev_neg (by omega) ?_)
    rw [List.drop_eq_nil_of_le (by omega)]
    exact ev_some _
   exact ⟨⟨_, hf⟩, fun _ => hf⟩
theorem bitLen11 {n : Nat} (h : n ≤ 2000) : Lib.bitLen (n - 1) ≤ 11 := Lib.bitLen_le _ 11 (by omega) (by omega)
theorem d_j2bad (many n : Int) (l s : List Int) : Ev (fun k => er_dict.j2 k many n l s true) ([], s, true) :=
 Ev.step (fun k => by rw [er_dict.j2]) (ev_pos rfl (ev_some _))
theorem d_j2 {many n : Nat} (hm : many ≤ 2000) (h1 : 1 ≤ n) (hn : n ≤ 2000) {l s : List Int} (hs : Byt s) (hl : l.length = n) :
 (∃ r : Ans, Ev (fun k => er_dict.j2 k (many : Int) (n : Int) l s false) r) ∧
 (s.length = (many * Lib.bitLen (n - 1) + 7) / 8 → (∀ q ∈ ups s many (Lib.bitLen (n - 1)), q < (n : Int)) → Ev (fun k => er_dict.j2 k (many : Int) (n : Int) l s false) ((ups s many (Lib.bitLen (n - 1))).map (rd l), [], false)) := by
 have hw := bitLen11 hn
 have e1 : wrap64 ((n : Int) - 1) = (n : Int) - 1 := w64 (by omega) (by omega)
 have e2 : ((n : Int) - 1).toNat = n - 1 := by omega
 have hpk := pk_ev hs false (m := many) (w := Lib.bitLen (n - 1)) hm (by omega)
 by_cases hlen : s.length = (many * Lib.bitLen (n - 1) + 7) / 8
 ·rw [if_pos hlen] at hpk
  have hul := ups_len s many (Lib.bitLen (n - 1))
  obtain ⟨⟨r, hr⟩, h2⟩ := d_l1 (n := (n : Int)) (l := l) [] false (by omega) (ups s many (Lib.bitLen (n - 1))) (by omega) (fun q hq => (ups_range q hq).1) _ 0 [] rfl (by omega) (Nat.le_refl _)
  have head : ∀ r : Ans, Ev (fun k => er_dict.l1 k (n : Int) l ([] ++ (ups s many (Lib.bitLen (n - 1))).drop 0) ((ups s many (Lib.bitLen (n - 1))).length : Int) ((0 : Nat) : Int) [] false) r → Ev (fun k => er_dict.j2 k (many : Int) (n : Int) l s false) r := by
   intro r h
   refine Ev.step (fun k => by rw [er_dict.j2]) (ev_neg (by simp) ?_)
   rw [e1, width_ev (by omega) (by omega), e2]
   exact Ev.bind (ev_some _) (Ev.bind hpk h)
  refine ⟨⟨r, head r hr⟩, fun _ hall => ?_⟩
  have := head _ (h2 hall)
  simpa using this
 ·rw [if_neg hlen] at hpk
  refine ⟨⟨([], s, true), Ev.step (fun k => by rw [er_dict.j2]) (ev_neg (by simp) ?_)⟩, fun h => absurd h hlen⟩
  rw [e1, width_ev (by omega) (by omega), e2]
  refine Ev.bind (ev_some _) (Ev.bind hpk (Ev.step (fun k => by rw [er_dict.l1]) (ev_neg (by simp) (ev_some _))))
theorem d_l0bad (many n : Int) (l s : List Int) : Ev (fun k => er_dict.l0 k many n l s true) ([], s, true) := by
 refine Ev.step (fun k => by rw [er_dict.l0]) ?_
 by_cases h : (l.length : Int) < n
 ·exact ev_pos h (ev_pos rfl (d_j2bad _ _ _ _))
 ·exact ev_neg h (d_j2bad _ _ _ _)
theorem d_one {many n : Int} {l s : List Int} (hs : Byt s) (h : (l.length : Int) < n) (h1 : 0 < l.length) (hn : n ≤ 2000) {r : Ans} (hr : Ev (fun k => er_dict.l0 k many n (l ++ [wrap64 (l.getD (l.length - 1) 0 + (ct s false).1)]) (ct s false).2.1 (ct s false).2.2) r) :
 Ev (fun k => er_dict.l0 k many n l s false) r := by
 have e1 : wrap64 ((l.length : Int) - 1) = ((l.length - 1 : Nat) : Int) := by rw [w64 (by omega) (by omega)]; omega
 refine Ev.step (fun k => by rw [er_dict.l0]) (ev_pos h (ev_neg (by simp) ?_))
 rw [e1, rdD]
 exact ev_pos (by omega) (ev_pos (by omega) (Ev.bind (ct_ev false hs) (ev_pos (by omega) hr)))
theorem d_total {many n : Nat} (hm : many ≤ 2000) (hn : n ≤ 2000) (d : Nat) : ∀ (l s : List Int), 0 < l.length → l.length + d = n → Byt s → ∃ r : Ans, Ev (fun k => er_dict.l0 k (many : Int) (n : Int) l s false) r := by
 induction d with
 | zero =>
  intro l s h0 hl hs
  obtain ⟨r, hr⟩ := (d_j2 hm (n := n) (by omega) hn hs (l := l) (by omega)).1
  exact ⟨r, Ev.step (fun k => by rw [er_dict.l0]) (ev_neg (by omega) hr)⟩
 | succ d ih =>
  intro l s h0 hl hs
  have key : ∃ r : Ans, Ev (fun k => er_dict.l0 k (many : Int) (n : Int) (l ++ [wrap64 (l.getD (l.length - 1) 0 + (ct s false).1)]) (ct s false).2.1 (ct s false).2.2) r := by
   cases hb : (ct s false).2.2 with
   | true => exact ⟨_, d_l0bad _ _ _ _⟩
   | false => exact ih _ _ (by simp) (by simp; omega) (ct_byt hs)
  obtain ⟨r, hr⟩ := key
  exact ⟨r, d_one hs (by omega) h0 (by omega) hr⟩
theorem d_dif {many n : Nat} (hn : n ≤ 2000) (d : Nat) (rest : List Int) (r : Ans) : ∀ (t pre : List Int) (p : Int), pre.length + 1 + t.length = n → t.length ≤ d → (p :: t).Pairwise (· < ·) → (∀ v ∈ p :: t, -1000000000000000 ≤ v ∧ v ≤ 1000000000000000) → Byt (dif p t ++ rest) →
 Ev (fun k => er_dict.j2 k (many : Int) (n : Int) (pre ++ p :: t) rest false) r →
 Ev (fun k => er_dict.l0 k (many : Int) (n : Int) (pre ++ [p]) (dif p t ++ rest) false) r := by
 induction d with
 | zero =>
  intro t pre p hl ht hs hv hb h
  have : t = [] := List.eq_nil_of_length_eq_zero (by omega)
  subst this
  refine Ev.step (fun k => by rw [er_dict.l0]) (ev_neg (by simp; simp at hl; omega) ?_)
  simpa [dif] using h
 | succ d ih =>
  intro t pre p hl ht hs hv hb h
  cases t with
  | nil =>
   refine Ev.step (fun k => by rw [er_dict.l0]) (ev_neg (by simp; simp at hl; omega) ?_)
   simpa [dif] using h
  | cons b t =>
   have hl' : pre.length + 1 + (t.length + 1) = n := hl
   have ht' : t.length + 1 ≤ d + 1 := ht
   have hp := hv p (List.mem_cons_self ..)
   have hb1 := hv b (by simp)
   have hlt : p < b := by
    have := (List.pairwise_cons.1 hs).1 b (List.mem_cons_self ..)
    exact this
   have e : dif p (b :: t) ++ rest = cnt (b - p).toNat ++ (dif b t ++ rest) := by rw [dif, List.append_assoc]
   have hct := ct_cnt (n := (b - p).toNat) (dif b t ++ rest) (by omega)
   rw [← e] at hct
   refine d_one hb (by simp; omega) (by simp) (by omega) ?_
   have hlast : (pre ++ [p]).getD ((pre ++ [p]).length - 1) 0 = p := by simp [List.getD]
   rw [hct, hlast]
   dsimp only
   rw [show wrap64 (p + ((b - p).toNat : Int)) = b by rw [w64 (by omega) (by omega)]; omega]
   refine ih t (pre ++ [p]) b (by simp; omega) (by omega) (List.pairwise_cons.1 hs).2 (fun v hv' => hv v (List.mem_cons_of_mem _ hv')) (fun x hx => hb x (by rw [e]; exact List.mem_append_right _ hx)) ?_
   simpa using h
theorem dict_total {many : Nat} (hm : many ≤ 2000) {s : List Int} (hs : Byt s) : ∃ r : Ans, Ev (fun k => er_dict.f k s false (many : Int)) r := by
 have hlv := lt_val s false
 obtain ⟨n, hn⟩ := Int.eq_ofNat_of_zero_le hlv.1
 have j0t : Ev (fun k => er_dict.j0 k (many : Int) (lt_ s false).1 true (lt_ s false).2.1 (lt_ s false).2.2) ([], (lt_ s false).2.1, true) :=
  Ev.step (fun k => by rw [er_dict.j0]) (ev_pos rfl (ev_some _))
 by_cases h0 : (lt_ s false).1 = 0
 ·exact ⟨_, by unfold er_dict.f; exact Ev.bind (lt_ev false hs) (ev_pos h0 j0t)⟩
 ·cases hb : (lt_ s false).2.2 with
  | true => exact ⟨([], (lt_ s false).2.1, true), by
   unfold er_dict.f
   refine Ev.bind (lt_ev false hs) (ev_neg h0 ?_)
   rw [hb] at j0t ⊢
   exact j0t⟩
  | false =>
   have key : ∃ r : Ans, Ev (fun k => er_dict.l0 k (many : Int) (n : Int) [(nt (lt_ s false).2.1 false).1] (nt (lt_ s false).2.1 false).2.1 (nt (lt_ s false).2.1 false).2.2) r := by
    cases hb2 : (nt (lt_ s false).2.1 false).2.2 with
    | true => exact ⟨_, d_l0bad _ _ _ _⟩
    | false => exact d_total hm (n := n) (by omega) (n - 1) _ _ (by simp) (by simp; omega) (nt_byt (lt_byt hs))
   obtain ⟨r, hr⟩ := key
   refine ⟨r, ?_⟩
   unfold er_dict.f
   refine Ev.bind (lt_ev false hs) (ev_neg h0 ?_)
   rw [hb]
   refine Ev.step (fun k => by rw [er_dict.j0]) (ev_neg (by simp) (Ev.bind (nt_ev false (lt_byt hs)) ?_))
   rw [hn]
   exact hr
theorem bitLen_lt (x : Nat) (h : x < 18446744073709551616) : x < 2 ^ Lib.bitLen x := by
 by_cases h0 : x = 0
 ·subst h0; exact Nat.pow_pos (by omega)
 ·exact (Lib.bitLenAux_bounds 64 x (by omega) h0).2.2
theorem dict_round {l : List Int} (h : Okv l) (hne : l ≠ []) (hb : Byt (dict l)) : Ev (fun k => er_dict.f k (dict l) false (l.length : Int)) (l, [], false) := by
 have hn := h.1
 have hs := dst_sorted l
 have hdl := dst_len l
 have hdp := dst_ne hne
 have hdv : ∀ v ∈ dst l, -1000000000000000 ≤ v ∧ v ≤ 1000000000000000 := fun v hv => h.2 v ((hs.2 v).1 hv)
 have hcons : dst l = (dst l).getD 0 0 :: (dst l).drop 1 := by
  have := getD_drop_head (d := 0) hdp
  rwa [List.drop_zero] at this
 have h0v := hdv _ (mem_getD hdp)
 have e : dict l = cnt (dst l).length ++ (num ((dst l).getD 0 0) ++ (dif ((dst l).getD 0 0) ((dst l).drop 1) ++ pb (allbits (pls l) (Lib.bitLen ((dst l).length - 1))))) := by unfold dict; simp only [List.append_assoc]
 have hlt := lt_cnt (n := (dst l).length) (num ((dst l).getD 0 0) ++ (dif ((dst l).getD 0 0) ((dst l).drop 1) ++ pb (allbits (pls l) (Lib.bitLen ((dst l).length - 1))))) (by omega)
 rw [← e] at hlt
 have hnt := nt_num (dif ((dst l).getD 0 0) ((dst l).drop 1) ++ pb (allbits (pls l) (Lib.bitLen ((dst l).length - 1)))) (v := (dst l).getD 0 0) (by omega) (by omega)
 have hb1 : Byt (num ((dst l).getD 0 0) ++ (dif ((dst l).getD 0 0) ((dst l).drop 1) ++ pb (allbits (pls l) (Lib.bitLen ((dst l).length - 1))))) := fun x hx => hb x (by rw [e]; exact List.mem_append_right _ hx)
 have hb2 : Byt (dif ((dst l).getD 0 0) ((dst l).drop 1) ++ pb (allbits (pls l) (Lib.bitLen ((dst l).length - 1)))) := fun x hx => hb1 x (List.mem_append_right _ hx)
 unfold er_dict.f
 refine Ev.bind (lt_ev false hb) ?_
 rw [hlt]
 refine ev_neg (show ¬ ((dst l).length : Int) = 0 by omega) ?_
 refine Ev.step (fun k => by rw [er_dict.j0]) (ev_neg (by simp) (Ev.bind (nt_ev false hb1) ?_))
 rw [hnt]
 dsimp only
 have hbl := bitLen_lt ((dst l).length - 1) (by omega)
 have hplr : ∀ v ∈ pls l, 0 ≤ v ∧ v < 2 ^ Lib.bitLen ((dst l).length - 1) := by
  intro v hv
  have h1 := pls_range v hv
  have h2 : (((dst l).length - 1 : Nat) : Int) < (2 : Int) ^ Lib.bitLen ((dst l).length - 1) := by exact_mod_cast hbl
  exact ⟨h1.1, by omega⟩
 have hups := ups_pb hplr
 rw [pls_len] at hups
 refine d_dif (many := l.length) (n := (dst l).length) (by omega) _ _ _ ((dst l).drop 1) [] ((dst l).getD 0 0) (by simp; omega) (Nat.le_refl _) (by rw [← hcons]; exact hs.1) (by rw [← hcons]; exact hdv) hb2 ?_
 rw [List.nil_append, ← hcons]
 have := (d_j2 (many := l.length) hn (n := (dst l).length) (by omega) (by omega) (l := dst l) (s := pb (allbits (pls l) (Lib.bitLen ((dst l).length - 1)))) (fun x hx => hb2 x (List.mem_append_right _ hx)) rfl).2 (by rw [pb_len, allbits_len, pls_len]) ?_
 ·rw [hups] at this
  have hmap : (pls l).map (rd (dst l)) = l := by
   unfold pls
   rw [List.map_map]
   have : ∀ v ∈ l, (rd (dst l) ∘ fun v => (pl (dst l) v : Int)) v = v := by
    intro v hv
    simp only [Function.comp]
    rw [rdD, pl_get ((hs.2 v).2 hv)]
   rw [List.map_congr_left this]
   simp
  rw [hmap] at this
  exact this
 ·rw [hups]
  exact fun q hq => (pls_range q hq).2
theorem f_l1 (least : Int) (s : List Int) (bad : Bool) (u : List Int) (hu : u.length ≤ 100000) (d : Nat) : ∀ (i : Nat) (pre : List Int), pre.length = i → i ≤ u.length → u.length - i ≤ d →
 Ev (fun k => er_values.l1 k (pre ++ u.drop i) least (u.length : Int) (i : Int) s bad) (pre ++ (u.drop i).map (fun v => wrap64 (v + least)), s, bad) := by
 induction d with
 | zero =>
  intro i pre hp hi hd
  refine Ev.step (fun k => by rw [er_values.l1]) (ev_neg (by omega) ?_)
  rw [List.drop_eq_nil_of_le (by omega)]
  exact ev_some _
 | succ d ih =>
  intro i pre hp hi hd
  refine Ev.step (fun k => by rw [er_values.l1]) ?_
  by_cases hlt : i < u.length
  ·have hlen : (pre ++ u.drop i).length = u.length := by simp; omega
   have hrd : rd (pre ++ u.drop i) (i : Int) = u.getD i 0 := by
    rw [rdD, List.getD, List.getElem?_append_right (by omega), hp, Nat.sub_self, List.getElem?_drop, Nat.add_zero]
    rfl
   have hset : (pre ++ u.drop i).set i (wrap64 (u.getD i 0 + least)) = (pre ++ [wrap64 (u.getD i 0 + least)]) ++ u.drop (i + 1) := by
    rw [List.set_append_right _ _ (by omega), hp, Nat.sub_self, getD_drop_head (d := 0) hlt, List.set_cons_zero, List.append_assoc]
    rfl
   have := ih (i + 1) (pre ++ [wrap64 (u.getD i 0 + least)]) (by simp [hp]) (by omega) (by omega)
   rw [hrd, Int.toNat_natCast, hset, w64 (n := (i : Int) + 1) (by omega) (by omega)]
   refine ev_pos (by omega) (ev_pos (by omega) (ev_pos (by omega) (ev_eq this ?_)))
   rw [getD_drop_head (d := 0) hlt, List.map_cons, List.append_assoc]
   rfl
  ·refine ev_neg (by omega) ?_
   rw [List.drop_eq_nil_of_le (by omega)]
   exact ev_some _
theorem f_j4 (u : List Int) (hu : u.length ≤ 100000) (least : Int) (s : List Int) (bad : Bool) : Ev (fun k => er_values.j4 k u least s bad) (u.map (fun v => wrap64 (v + least)), s, bad) :=
 Ev.step (fun k => by rw [er_values.j4]) (by simpa using f_l1 least s bad u hu _ 0 [] rfl (by omega) (Nat.le_refl _))
theorem f_j3 {many : Nat} (hm : many ≤ 2000) (least : Int) {w : Int} (w0 : 0 ≤ w) (w1 : w ≤ 52) {s : List Int} (hs : Byt s) (bad : Bool) : ∃ r : Ans, Ev (fun k => er_values.j3 k (many : Int) [] least w s bad) r := by
 cases bad with
 | true => exact ⟨_, Ev.step (fun k => by rw [er_values.j3]) (ev_pos rfl (f_j4 [] (by simp) least s true))⟩
 | false =>
  obtain ⟨q, rfl⟩ := Int.eq_ofNat_of_zero_le w0
  have hpk := pk_ev hs false (m := many) (w := q) hm (by omega)
  by_cases hl : s.length = (many * q + 7) / 8
  ·rw [if_pos hl] at hpk
   exact ⟨_, Ev.step (fun k => by rw [er_values.j3]) (ev_neg (by simp) (Ev.bind hpk (f_j4 (ups s many q) (by rw [ups_len]; omega) least [] false)))⟩
  ·rw [if_neg hl] at hpk
   exact ⟨_, Ev.step (fun k => by rw [er_values.j3]) (ev_neg (by simp) (Ev.bind hpk (f_j4 [] (by simp) least s true)))⟩
theorem values_total {c : Int} (hc : 1 ≤ c ∧ c ≤ 5) {many : Nat} (hm : many ≤ 2000) {s : List Int} (hs : Byt s) : ∃ r : Ans, Ev (fun k => er_values.f k s false c (many : Int)) r := by
 unfold er_values.f
 have hv := v_total c many [] 0 s (by simpa using hm) (by omega) hs
 rw [show (([] : List Int).length + many) = many by simp] at hv
 by_cases h1 : c = 1
 ·obtain ⟨r, hr⟩ := hv
  exact ⟨r, ev_pos h1 (Ev.step (fun k => by rw [er_values.j0]) (ev_pos (by simp [h1]) hr))⟩
 ·by_cases h5 : c = 5
  ·obtain ⟨r, hr⟩ := hv
   exact ⟨r, ev_neg h1 (Ev.step (fun k => by rw [er_values.j0]) (ev_pos (by simp [h5]) hr))⟩
  ·have hn5 : ¬ (c == 5) = true := by simpa using h5
   by_cases h2 : c = 2
   ·obtain ⟨r, hr⟩ := r_total many hm many [] s (by simp) (by simp) hs
    exact ⟨_, ev_neg h1 (Ev.step (fun k => by rw [er_values.j0]) (ev_neg hn5 (ev_pos h2 (Ev.bind (show Ev (fun k => er_runs.f k s false (many : Int)) r from hr) (ev_some _)))))⟩
   ·by_cases h3 : c = 3
    ·obtain ⟨r, hr⟩ := dict_total hm hs
     exact ⟨_, ev_neg h1 (Ev.step (fun k => by rw [er_values.j0]) (ev_neg hn5 (ev_neg h2 (ev_pos h3 (Ev.bind hr (ev_some _))))))⟩
    ·have h4 : c = 4 := by omega
     have hb := byteB (nt s false).2.1 (nt s false).2.2 (nt_byt hs)
     have hb1 : Byt (nt s false).2.1.tail := by rw [← List.drop_one]; exact (nt_byt hs).drop 1
     have hh : 0 ≤ (nt s false).2.1.headD 0 := by
      cases he : (nt s false).2.1 with
      | nil => simp
      | cons x t => exact (nt_byt (bad := false) hs x (by rw [he]; exact List.mem_cons_self ..)).1
     have key : ∃ r : Ans, Ev (fun k => if (nt s false).2.1.headD 0 > 52 then er_values.j3 k (many : Int) [] (nt s false).1 ((nt s false).2.1.headD 0) (nt s false).2.1.tail true else er_values.j3 k (many : Int) [] (nt s false).1 ((nt s false).2.1.headD 0) (nt s false).2.1.tail ((nt s false).2.2 || (nt s false).2.1.isEmpty)) r := by
      by_cases hw : (nt s false).2.1.headD 0 > 52
      ·exact ⟨_, ev_pos hw (Ev.step (fun k => by rw [er_values.j3]) (ev_pos rfl (f_j4 [] (by simp) _ _ true)))⟩
      ·obtain ⟨r, hr⟩ := f_j3 hm (nt s false).1 hh (by omega) hb1 ((nt s false).2.2 || (nt s false).2.1.isEmpty)
       exact ⟨r, ev_neg hw hr⟩
     obtain ⟨r, hr⟩ := key
     refine ⟨r, ev_neg h1 (Ev.step (fun k => by rw [er_values.j0]) (ev_neg hn5 (ev_neg h2 (ev_neg h3 (ev_pos h4 (Ev.bind (nt_ev false hs) ?_))))))⟩
     rw [hb]
     exact Ev.bind (ev_some _) hr
theorem values_round {c : Nat} (hc : 1 ≤ c ∧ c ≤ 5) {l : List Int} (h : Okv l) (hne : l ≠ []) (hb : Byt (body c l)) : Ev (fun k => er_values.f k (body c l) false (c : Int) (l.length : Int)) (l, [], false) := by
 have hn := h.1
 unfold er_values.f
 by_cases h1 : c = 1
 ·subst h1
  have hv := v_nums [] (by intro x hx; simp at hx) l [] 0 (by simpa using hn) (by omega) h.2 (by simpa [body] using hb)
  rw [show (([] : List Int).length + l.length) = l.length by simp, List.append_nil, List.nil_append] at hv
  refine ev_pos rfl (Ev.step (fun k => by rw [er_values.j0]) (ev_pos (by simp) ?_))
  simpa [body] using hv
 ·refine ev_neg (by omega) ?_
  by_cases h5 : c = 5
  ·subst h5
   have hv := v_dlt [] (by intro x hx; simp at hx) l [] 0 (by simpa using hn) (by omega) h.2 (by simpa [body] using hb)
   rw [show (([] : List Int).length + l.length) = l.length by simp, List.append_nil, List.nil_append] at hv
   refine Ev.step (fun k => by rw [er_values.j0]) (ev_pos (by simp) ?_)
   simpa [body] using hv
  ·have hn5 : ¬ ((c : Int) == 5) = true := by simp; omega
   refine Ev.step (fun k => by rw [er_values.j0]) (ev_neg hn5 ?_)
   by_cases h2 : c = 2
   ·subst h2
    have hv := r_rle l.length hn _ l [] [] (Nat.le_refl _) (by simp) h.2 (by simpa [body] using hb)
    rw [List.append_nil, List.nil_append] at hv
    have e : body 2 l = rle l := by simp [body]
    rw [e]
    exact ev_pos rfl (Ev.bind (show Ev (fun k => er_runs.f k (rle l) false (l.length : Int)) (l, [], false) from hv) (ev_some _))
   ·refine ev_neg (by omega) ?_
    by_cases h3 : c = 3
    ·subst h3
     have e : body 3 l = dict l := by simp [body]
     rw [e] at hb ⊢
     exact ev_pos rfl (Ev.bind (dict_round h hne hb) (ev_some _))
    ·refine ev_neg (by omega) ?_
     have h4 : c = 4 := by omega
     subst h4
     have e : body 4 l = num (Lib.minOf l) ++ ((fw l : Int) :: pb (allbits (fs l) (fw l))) := by simp [body, frame]
     rw [e] at hb ⊢
     have hm := h.2 _ (minOf_le l hne).1
     have hx := h.2 _ (maxOf_ge l hne).1
     have hmx := (minOf_le l hne).2 _ (maxOf_ge l hne).1
     have hfw := fw_le h hne
     have hnt := nt_num (((fw l : Int) :: pb (allbits (fs l) (fw l)))) (v := Lib.minOf l) (by omega) (by omega)
     have hb2 : Byt ((fw l : Int) :: pb (allbits (fs l) (fw l))) := fun x hx => hb x (List.mem_append_right _ hx)
     have hb3 : Byt (pb (allbits (fs l) (fw l))) := fun x hx => hb2 x (List.mem_cons_of_mem _ hx)
     have hfl : (fs l).length = l.length := by simp [fs]
     have hbl := bitLen_lt (Lib.maxOf l - Lib.minOf l).toNat (by omega)
     have hfr : ∀ v ∈ fs l, 0 ≤ v ∧ v < 2 ^ fw l := by
      intro v hv
      have h1 := fs_range h hne v hv
      have h2 : ((Lib.maxOf l - Lib.minOf l).toNat : Int) < (2 : Int) ^ fw l := by exact_mod_cast hbl
      exact ⟨h1.1, by omega⟩
     have hups := ups_pb hfr
     rw [hfl] at hups
     have hpk := pk_ev hb3 false (m := l.length) (w := fw l) hn (by omega)
     rw [if_pos (by rw [pb_len, allbits_len, hfl]), hups] at hpk
     refine ev_pos rfl (Ev.bind (nt_ev false hb) ?_)
     rw [hnt]
     dsimp only
     rw [byteB _ false hb2]
     refine Ev.bind (ev_some _) (ev_neg (show ¬ (fw l : Int) > 52 by omega) ?_)
     refine (show Ev (fun k => er_values.j3 k (l.length : Int) [] (Lib.minOf l) (fw l : Int) (pb (allbits (fs l) (fw l))) false) (l, [], false) from ?_)
     refine Ev.step (fun k => by rw [er_values.j3]) (ev_neg (by simp) (Ev.bind hpk (ev_eq (f_j4 (fs l) (by omega) _ _ _) ?_)))
     have hmap : (fs l).map (fun v => wrap64 (v + Lib.minOf l)) = l := by
      unfold fs
      rw [List.map_map]
      have : ∀ v ∈ l, ((fun v => wrap64 (v + Lib.minOf l)) ∘ fun v => v - Lib.minOf l) v = v := by
       intro v hv
       have := h.2 v hv
       simp only [Function.comp]
       rw [w64 (by omega) (by omega)]
       omega
      rw [List.map_congr_left this]
      simp
     rw [hmap]
theorem eqI_l0 (x y : List Int) (hl : x.length = y.length) (hb : x.length ≤ 140737488355328) (d : Nat) : ∀ i : Nat, i ≤ x.length → x.length - i ≤ d → Ev (fun k => s_Equal.l0 k x y (x.length : Int) (i : Int)) (decide (x.drop i = y.drop i)) := by
 induction d with
 | zero =>
  intro i hi hd
  refine Ev.step (fun k => by rw [s_Equal.l0]) (ev_neg (by omega) ?_)
  rw [List.drop_eq_nil_of_le (show x.length ≤ i by omega), List.drop_eq_nil_of_le (show y.length ≤ i by omega)]
  exact ev_some _
 | succ d ih =>
  intro i hi hd
  refine Ev.step (fun k => by rw [s_Equal.l0]) ?_
  by_cases h : i < x.length
  ·refine ev_pos (by omega) (ev_pos (by omega) (ev_pos (by omega) (ev_pos (by omega) ?_)))
   rw [rdD, rdD, getD_drop_head (d := 0) h, getD_drop_head (d := 0) (show i < y.length by omega)]
   by_cases e : x.getD i 0 = y.getD i 0
   ·refine ev_pos e ?_
    rw [w64 (by omega) (by omega)]
    exact ev_eq (ih (i + 1) (by omega) (by omega)) (by rw [e]; simp)
   ·exact ev_neg e (ev_eq (ev_some _) (by simp only [List.cons.injEq, e, false_and, decide_false]))
  ·refine ev_neg (by omega) ?_
   rw [List.drop_eq_nil_of_le (show x.length ≤ i by omega), List.drop_eq_nil_of_le (show y.length ≤ i by omega)]
   exact ev_some _
theorem eqI_ev {x y : List Int} (hb : x.length ≤ 140737488355328) : Ev (fun k => s_Equal.f k x y) (decide (x = y)) := by
 unfold s_Equal.f
 by_cases hl : x.length = y.length
 ·exact ev_pos (by omega) (eqI_l0 x y hl hb _ 0 (by omega) (Nat.le_refl _))
 ·exact ev_neg (by omega) (ev_eq (ev_some _) (by
   have : x ≠ y := fun h => hl (by rw [h])
   simp [this]))
theorem Byt.app {a b : List Int} (ha : Byt a) (hb : Byt b) : Byt (a ++ b) := fun x hx => (List.mem_append.1 hx).elim (ha x) (hb x)
theorem nums_byt (l : List Int) : Byt (nums l) := fun x hx => by
 obtain ⟨v, _, h⟩ := List.mem_flatMap.1 hx
 exact num_byte v x h
theorem rle_byt (n : Nat) : ∀ l : List Int, l.length ≤ n → Byt (rle l) := by
 induction n with
 | zero =>
  intro l hl
  have : l = [] := List.eq_nil_of_length_eq_zero (by omega)
  subst this
  rw [rle_nil]; intro x hx; simp at hx
 | succ n ih =>
  intro l hl
  cases l with
  | nil => rw [rle_nil]; intro x hx; simp at hx
  | cons b t =>
   rw [rle_cons]
   exact Byt.app (Byt.app (num_byte b) (cnt_byte _)) (ih _ (by simp at hl ⊢; omega))
theorem dif_byt : ∀ (p : Int) (l : List Int), Byt (dif p l)
 | p, [] => by intro x hx; simp [dif] at hx
 | p, b :: t => by rw [dif]; exact Byt.app (cnt_byte _) (dif_byt b t)
theorem dlt_byt : ∀ (p : Int) (l : List Int), Byt (dlt p l)
 | p, [] => by intro x hx; simp [dlt] at hx
 | p, b :: t => by rw [dlt]; exact Byt.app (num_byte _) (dlt_byt b t)
theorem body_byt (c : Nat) {l : List Int} (h : Okv l) (hne : l ≠ []) : Byt (body c l) := by
 have hfw := fw_le h hne
 unfold body
 split
 ·exact nums_byt l
 split
 ·exact rle_byt _ l (Nat.le_refl _)
 split
 ·unfold dict
  exact Byt.app (Byt.app (Byt.app (cnt_byte _) (num_byte _)) (dif_byt _ _)) (pb_byte (allbits_bits _ _))
 split
 ·unfold frame
  refine Byt.app (Byt.app (num_byte _) ?_) (pb_byte (allbits_bits _ _))
  intro x hx
  rw [List.mem_singleton.1 hx]
  omega
 ·exact dlt_byt _ _
theorem enc_byt {c : Nat} (hc : c ≤ 255) {l : List Int} (h : Okv l) : Byt (enc c l) := by
 unfold enc
 refine Byt.app ?_ ?_
 ·intro x hx
  rcases List.mem_cons.1 hx with rfl | hx
  ·omega
  ·exact cnt_byte _ x hx
 ·split
  ·intro x hx; simp at hx
  ·rename_i hne; exact body_byt c h hne
theorem Okv_nil : Okv [] := ⟨by simp, by simp⟩
theorem j1_bad (b : List Int) (c : Int) (o s : List Int) : Ev (fun k => e_decode.j1 k b c o s true) ([], false) :=
 Ev.step (fun k => by rw [e_decode.j1]) (ev_pos rfl (ev_some _))
theorem j1_ok {b : List Int} (hb : Byt b) {c : Nat} (h1 : 1 ≤ c) (h5 : c ≤ 5) (o s : List Int) : Ev (fun k => e_decode.j1 k b (c : Int) o s false) (if chk o = 0 ∧ enc c o = b then (o, true) else ([], false)) := by
 refine Ev.step (fun k => by rw [e_decode.j1]) (ev_neg (by simp) (Ev.bind (check_ev o) ?_))
 by_cases h0 : chk o = 0
 ·have ho := chk_ok.1 h0
  refine ev_pos h0 (Ev.bind (e_ev h1 h5 ho) ?_)
  rw [bytesEqual_eq (enc_byt (by omega) ho) hb]
  refine Ev.bind (ev_some _) ?_
  by_cases he : enc c o = b
  ·rw [show (if chk o = 0 ∧ enc c o = b then (o, true) else (([] : List Int), false)) = (o, true) from if_pos ⟨h0, he⟩]
   exact ev_pos (by simpa using he) (ev_some _)
  ·rw [show (if chk o = 0 ∧ enc c o = b then (o, true) else (([] : List Int), false)) = ([], false) from if_neg (fun h => he h.2)]
   exact ev_neg (by simpa using he) (ev_some _)
 ·rw [if_neg (fun h => h0 h.1)]
  exact ev_neg h0 (ev_some _)
/-- What decode may answer. -/
def DecOk (b : List Int) (r : List Int × Bool) : Prop := r = ([], false) ∨ ∃ c l, 1 ≤ c ∧ c ≤ 5 ∧ Okv l ∧ enc c l = b ∧ r = (l, true)
theorem j1_any {b : List Int} (hb : Byt b) {c : Nat} (h1 : 1 ≤ c) (h5 : c ≤ 5) (o s : List Int) (bad : Bool) : ∃ r, Ev (fun k => e_decode.j1 k b (c : Int) o s bad) r ∧ DecOk b r := by
 cases bad with
 | true => exact ⟨_, j1_bad b c o s, Or.inl rfl⟩
 | false =>
  refine ⟨_, j1_ok hb h1 h5 o s, ?_⟩
  by_cases h : chk o = 0 ∧ enc c o = b
  ·rw [if_pos h]; exact Or.inr ⟨c, o, h1, h5, chk_ok.1 h.1, h.2, rfl⟩
  ·rw [if_neg h]; exact Or.inl rfl
theorem decode_total {b : List Int} (hb : Byt b) : ∃ r, Ev (fun k => e_decode.f k b) r ∧ DecOk b r := by
 have ht : Byt b.tail := by rw [← List.drop_one]; exact hb.drop 1
 have hbyte := byteB b false hb
 have hlv := lt_val b.tail (false || b.isEmpty)
 have head : ∀ r, Ev (fun k => if (decide (1 ≤ b.headD 0) && decide (b.headD 0 ≤ 5)) = true then (if (lt_ b.tail (false || b.isEmpty)).1 > 0 then (e_decode.j0 k b (b.headD 0) (lt_ b.tail (false || b.isEmpty)).1 ([] : List Int) (!(lt_ b.tail (false || b.isEmpty)).2.2) (lt_ b.tail (false || b.isEmpty)).2.1 (lt_ b.tail (false || b.isEmpty)).2.2) else (e_decode.j0 k b (b.headD 0) (lt_ b.tail (false || b.isEmpty)).1 ([] : List Int) false (lt_ b.tail (false || b.isEmpty)).2.1 (lt_ b.tail (false || b.isEmpty)).2.2)) else (some (([] : List Int), false))) r → Ev (fun k => e_decode.f k b) r := by
  intro r h
  unfold e_decode.f
  rw [hbyte]
  refine Ev.bind (ev_some _) (Ev.bind (lt_ev _ ht) ?_)
  rw [in_eq]
  exact Ev.bind (ev_some _) h
 by_cases hc : 1 ≤ b.headD 0 ∧ b.headD 0 ≤ 5
 ·obtain ⟨c, hcc⟩ := Int.eq_ofNat_of_zero_le (show 0 ≤ b.headD 0 by omega)
  have hc' : (decide (1 ≤ b.headD 0) && decide (b.headD 0 ≤ 5)) = true := by simpa using hc
  obtain ⟨many, hmany⟩ := Int.eq_ofNat_of_zero_le hlv.1
  have key : ∃ r, Ev (fun k => if (lt_ b.tail (false || b.isEmpty)).1 > 0 then (e_decode.j0 k b (b.headD 0) (lt_ b.tail (false || b.isEmpty)).1 ([] : List Int) (!(lt_ b.tail (false || b.isEmpty)).2.2) (lt_ b.tail (false || b.isEmpty)).2.1 (lt_ b.tail (false || b.isEmpty)).2.2) else (e_decode.j0 k b (b.headD 0) (lt_ b.tail (false || b.isEmpty)).1 ([] : List Int) false (lt_ b.tail (false || b.isEmpty)).2.1 (lt_ b.tail (false || b.isEmpty)).2.2)) r ∧ DecOk b r := by
   have off : ∀ (m : Int) (s : List Int) (bad : Bool), ∃ r, Ev (fun k => e_decode.j0 k b (b.headD 0) m [] false s bad) r ∧ DecOk b r := by
    intro m s bad
    obtain ⟨r, hr, ho⟩ := j1_any hb (c := c) (by omega) (by omega) [] s bad
    refine ⟨r, Ev.step (fun k => by rw [e_decode.j0]) (ev_neg (by simp) ?_), ho⟩
    rw [hcc]
    exact hr
   by_cases h0 : (lt_ b.tail (false || b.isEmpty)).1 > 0
   ·cases hbad : (lt_ b.tail (false || b.isEmpty)).2.2 with
    | true =>
     obtain ⟨r, hr, ho⟩ := off (lt_ b.tail (false || b.isEmpty)).1 (lt_ b.tail (false || b.isEmpty)).2.1 true
     exact ⟨r, ev_pos h0 hr, ho⟩
    | false =>
     obtain ⟨v, hv⟩ := values_total (c := b.headD 0) hc (many := many) (by omega) (lt_byt (bad := (false || b.isEmpty)) ht)
     obtain ⟨r, hr, ho⟩ := j1_any hb (c := c) (by omega) (by omega) v.1 v.2.1 v.2.2
     refine ⟨r, ev_pos h0 (Ev.step (fun k => by rw [e_decode.j0]) (ev_pos (show (!false) = true from rfl) ?_)), ho⟩
     rw [hmany]
     rw [hcc] at hv ⊢
     exact Ev.bind hv hr
   ·obtain ⟨r, hr, ho⟩ := off (lt_ b.tail (false || b.isEmpty)).1 (lt_ b.tail (false || b.isEmpty)).2.1 (lt_ b.tail (false || b.isEmpty)).2.2
    exact ⟨r, ev_neg h0 hr, ho⟩
  obtain ⟨r, hr, ho⟩ := key
  exact ⟨r, head r (ev_pos hc' hr), ho⟩
 ·exact ⟨_, head _ (ev_neg (by simpa using hc) (ev_some _)), Or.inl rfl⟩
theorem decode_round {c : Nat} (h1 : 1 ≤ c) (h5 : c ≤ 5) {l : List Int} (h : Okv l) : Ev (fun k => e_decode.f k (enc c l)) (l, true) := by
 have hb := enc_byt (c := c) (by omega) h
 have hn := h.1
 have htl : (enc c l).tail = cnt l.length ++ (if l = [] then [] else body c l) := by simp [enc]
 have hhd : (enc c l).headD 0 = (c : Int) := by simp [enc]
 have hem : (enc c l).isEmpty = false := by simp [enc]
 have ht : Byt (cnt l.length ++ (if l = [] then [] else body c l)) := by rw [← htl, ← List.drop_one]; exact hb.drop 1
 have hlt := lt_cnt (n := l.length) (if l = [] then [] else body c l) hn
 have fin : ∀ s, Ev (fun k => e_decode.j1 k (enc c l) (c : Int) l s false) (l, true) := by
  intro s
  have := j1_ok hb h1 h5 l s
  rwa [if_pos ⟨chk_ok.2 h, rfl⟩] at this
 unfold e_decode.f
 rw [byteB _ false hb, htl, hhd, hem]
 refine Ev.bind (ev_some _) (Ev.bind (lt_ev false ht) ?_)
 rw [hlt, in_eq]
 refine Ev.bind (ev_some _) (ev_pos (by simp; omega) ?_)
 dsimp only
 by_cases hz : l = []
 ·refine ev_neg (by rw [hz]; simp) (Ev.step (fun k => by rw [e_decode.j0]) (ev_neg (by simp) ?_))
  have := fin (if l = [] then [] else body c l)
  rw [hz] at this ⊢
  exact this
 ·have hp := List.length_pos_iff.2 hz
  refine ev_pos (by omega) (Ev.step (fun k => by rw [e_decode.j0]) (ev_pos (show (!false) = true from rfl) ?_))
  rw [if_neg hz]
  exact Ev.bind (values_round ⟨h1, h5⟩ h hz (body_byt c h hz)) (fin [])
/-- What Decode may answer. -/
def DecAns (b : List Int) (r : List Int × Int) : Prop := (r = ([], 2) ∨ r = ([], 3)) ∨ ∃ c l, 1 ≤ c ∧ c ≤ 5 ∧ Okv l ∧ enc c l = b ∧ r = (l, 0)
theorem Decode_total {b : List Int} (hb : Byt b) : ∃ r, Ev (fun k => e_Decode.f k b) r ∧ DecAns b r := by
 by_cases hl : b.length > 500000
 ·exact ⟨([], 2), by unfold e_Decode.f; exact ev_pos (by omega) (ev_some _), Or.inl (Or.inl rfl)⟩
 ·obtain ⟨r, hr, ho⟩ := decode_total hb
  rcases ho with rfl | ⟨c, l, h1, h5, h, he, rfl⟩
  ·exact ⟨([], 3), by unfold e_Decode.f; exact ev_neg (by omega) (Ev.bind hr (ev_neg (by simp) (ev_some _))), Or.inl (Or.inr rfl)⟩
  ·exact ⟨(l, 0), by unfold e_Decode.f; exact ev_neg (by omega) (Ev.bind hr (ev_pos rfl (ev_some _))), Or.inr ⟨c, l, h1, h5, h, he, rfl⟩⟩
theorem Decode_round {c : Nat} (h1 : 1 ≤ c) (h5 : c ≤ 5) {l : List Int} (h : Okv l) : Ev (fun k => e_Decode.f k (enc c l)) (l, 0) := by
 have hl := enc_len (c := c) h
 unfold e_Decode.f
 exact ev_neg (by omega) (Ev.bind (decode_round h1 h5 h) (ev_pos rfl (ev_some _)))
theorem concat_ev {x y : List Int} (hx : x.length ≤ 100000) (hy : y.length ≤ 100000) : Ev (fun k => s_Concat.f k [x, y]) (x ++ y) := by
 have e0 : rd_L2 [x, y] 0 = x := rfl
 have e1 : rd_L2 [x, y] 1 = y := rfl
 have hl1 : Ev (fun k => s_Concat.l1 k [] [x, y] 2 0) (x ++ y) := by
  refine Ev.step (fun k => by rw [s_Concat.l1]) (ev_pos (by omega) (ev_pos (by omega) (ev_pos (by simp) (ev_pos (by rw [e0]; simp; omega) ?_))))
  rw [e0, List.nil_append, show wrap64 (0 + 1) = 1 by simp [wrap64]]
  refine Ev.step (fun k => by rw [s_Concat.l1]) (ev_pos (by omega) (ev_pos (by omega) (ev_pos (by simp) (ev_pos (by rw [e1]; omega) ?_))))
  rw [e1, show wrap64 (1 + 1) = 2 by simp [wrap64]]
  exact Ev.step (fun k => by rw [s_Concat.l1]) (ev_neg (by omega) (ev_some _))
 have hg : s_Grow.f [] ((x.length : Int) + y.length) = some [] := by
  unfold s_Grow.f
  rw [if_pos ⟨rfl, by omega, by omega⟩]
 unfold s_Concat.f
 show Ev (fun k => s_Concat.l0 k [x, y] 0 [x, y] 2 0) (x ++ y)
 refine Ev.step (fun k => by rw [s_Concat.l0]) (ev_pos (by omega) (ev_pos (by omega) (ev_pos (by simp) ?_)))
 rw [e0, show wrap64 (0 + (x.length : Int)) = (x.length : Int) by rw [w64 (by omega) (by omega)]; omega, show wrap64 (0 + 1) = 1 by simp [wrap64]]
 refine ev_neg (by omega) (Ev.step (fun k => by rw [s_Concat.l0]) (ev_pos (by omega) (ev_pos (by omega) (ev_pos (by simp) ?_))))
 rw [e1, w64 (n := (x.length : Int) + y.length) (by omega) (by omega), show wrap64 (1 + 1) = 2 by simp [wrap64]]
 refine ev_neg (by omega) (Ev.step (fun k => by rw [s_Concat.l0]) (ev_neg (by omega) ?_))
 rw [hg]
 exact Ev.bind (ev_some _) hl1
theorem rnumber_ev {v : Int} (h0 : -4000000000000000 ≤ v) (h1 : v ≤ 4000000000000000) : Ev (fun k => q_number.f k v) (num v) := by
 unfold q_number.f
 have hz := zig_lt h0 h1
 by_cases h : v < 0
 ·refine ev_pos h (Ev.bind ?_ (ev_some _))
  have e : wrap64 (wrap64 (-2 * v) - 1) = ((zig v : Nat) : Int) := by
   rw [zig_neg h, w64 (n := -2 * v) (by omega) (by omega), w64 (by omega) (by omega)]
   omega
  rw [e]
  exact rcount_ev (by omega)
 ·refine ev_neg h (Ev.bind ?_ (ev_some _))
  have e : wrap64 (2 * v) = ((zig v : Nat) : Int) := by
   rw [zig_pos h, w64 (by omega) (by omega)]
  rw [e]
  exact rcount_ev (by omega)
theorem getD_ne {bs : List Int} {b : Int} {q : Nat} (h : q ≠ bs.length) : (bs ++ [b]).getD q 0 = bs.getD q 0 := by
 by_cases h1 : q < bs.length
 ·exact getD_snoc h1
 ·rw [getD_out (by simp; omega), getD_out (by omega)]
theorem byteN_ne {bs : List Int} {b : Int} {i : Nat} (h : i ≠ bs.length / 8) : byteN (bs ++ [b]) i = byteN bs i := by
 unfold byteN
 rw [getD_ne (by omega), getD_ne (by omega), getD_ne (by omega), getD_ne (by omega), getD_ne (by omega), getD_ne (by omega), getD_ne (by omega), getD_ne (by omega)]
def pbT (T : Nat) (bs : List Int) : List Int := (List.range T).map (byteN bs)
theorem pbT_len (T : Nat) (bs : List Int) : (pbT T bs).length = T := by simp [pbT]
theorem pbT_get {T : Nat} {bs : List Int} {i : Nat} (h : i < T) : (pbT T bs)[i]? = some (byteN bs i) := by simp [pbT, h]
theorem pbT_snoc {T : Nat} {bs : List Int} {b : Int} (h : bs.length / 8 < T) : pbT T (bs ++ [b]) = (pbT T bs).set (bs.length / 8) (byteN bs (bs.length / 8) + b * 2 ^ (7 - bs.length % 8)) := by
 refine List.ext_getElem? fun i => ?_
 rw [List.getElem?_set]
 by_cases hi : bs.length / 8 = i
 ·subst hi
  rw [if_pos rfl, if_pos (by rw [pbT_len]; exact h), pbT_get h, byteN_new]
 ·rw [if_neg hi]
  by_cases hlt : i < T
  ·rw [pbT_get hlt, pbT_get hlt, byteN_ne (fun h => hi h.symm)]
  ·rw [List.getElem?_eq_none (by rw [pbT_len]; omega), List.getElem?_eq_none (by rw [pbT_len]; omega)]
theorem pbT_zero {T : Nat} {bs : List Int} : pbT T (bs ++ [0]) = pbT T bs := by
 unfold pbT
 refine List.map_congr_left fun i _ => ?_
 by_cases h : i = bs.length / 8
 ·subst h; rw [byteN_new]; omega
 ·exact byteN_ne h
theorem rpacked_l1 (T : Nat) (hT : T ≤ 1000000000) (w : Int) (v : Int) (v0 : 0 ≤ v) (v1 : v < 9223372036854775808) (x17 : List Int) (x18 x19 : Int) (r : List Int) (c : Nat) :
 ∀ bs : List Int, (∀ b ∈ bs, 0 ≤ b ∧ b ≤ 1) → bs.length + c ≤ 8 * T → c ≤ 64 →
 Ev (fun k => q_packed.l0 k w (pbT T (bs ++ bitsOf v c)) ((bs.length + c : Nat) : Int) x17 x18 (wrap64 (x19 + 1))) r →
 Ev (fun k => q_packed.l1 k w (pbT T bs) (bs.length : Int) v ((c : Int) - 1) x17 x18 x19) r := by
 induction c with
 | zero =>
  intro bs hb hbl hc h
  refine Ev.step (fun k => by rw [q_packed.l1]) (ev_neg (by omega) ?_)
  simpa [bitsOf] using h
 | succ c ih =>
  intro bs hb hbl hc h
  have e1 : ((c + 1 : Nat) : Int) - 1 = (c : Int) := by omega
  have hbit := bit_of v0 v1 (show c ≤ 64 by omega)
  have b0 : 0 ≤ v / 2 ^ c % 2 := by omega
  have b1 : v / 2 ^ c % 2 ≤ 1 := by omega
  have hr : bs.length % 8 < 8 := Nat.mod_lt _ (by omega)
  have next : Ev (fun k => q_packed.l1 k w (pbT T (bs ++ [v / 2 ^ c % 2])) (wrap64 ((bs.length : Int) + 1)) v (wrap64 ((c : Int) - 1)) x17 x18 x19) r := by
   rw [w64 (n := (bs.length : Int) + 1) (by omega) (by omega), w64 (n := (c : Int) - 1) (by omega) (by omega)]
   have := ih (bs ++ [v / 2 ^ c % 2]) (allbits_bit hb b0 b1) (by simp; omega) (by omega) ?_
   ·rw [List.length_append, List.length_singleton] at this
    exact this
   ·rw [List.append_assoc, List.length_append, List.length_singleton]
    rw [show bs.length + 1 + c = bs.length + (c + 1) by omega]
    exact h
  have ed : wrap64 (Int.tdiv (bs.length : Int) 8) = ((bs.length / 8 : Nat) : Int) := by
   rw [Int.tdiv_eq_ediv_of_nonneg (by omega), w64 (by omega) (by omega)]
   omega
  refine Ev.step (fun k => by rw [q_packed.l1]) ?_
  rw [e1, hbit, ed]
  refine ev_pos (by omega) (ev_pos (by omega) ?_)
  by_cases hone : v / 2 ^ c % 2 = 1
  ·refine ev_pos hone (ev_pos (by omega) (ev_pos (by rw [pbT_len]; omega) (ev_pos (by rw [tmod8]; omega) ?_)))
   have er : rd (pbT T bs) ((bs.length / 8 : Nat) : Int) = byteN bs (bs.length / 8) := by
    rw [rdD]
    simp [List.getD, pbT_get (show bs.length / 8 < T by omega)]
   rw [er, or_shr hb, Int.toNat_natCast, ← pbT_snoc (by omega)]
   rw [hone] at next
   exact next
  ·rw [show v / 2 ^ c % 2 = 0 by omega, pbT_zero] at next
   exact ev_neg hone next
theorem rpacked_ev {l : List Int} {w : Nat} (hn : l.length ≤ 2000) (hw : w ≤ 64) (hv : ∀ v ∈ l, 0 ≤ v ∧ v < 9223372036854775808) :
 Ev (fun k => q_packed.f k l (w : Int)) (pb (allbits l w)) := by
 have hm : l.length * w ≤ 2000 * 64 := Nat.mul_le_mul hn hw
 have hm' : (l.length : Int) * (w : Int) = ((l.length * w : Nat) : Int) := by rw [Int.natCast_mul]
 have hT : wrap64 (Int.tdiv (wrap64 (wrap64 ((l.length : Int) * (w : Int)) + 7)) 8) = (((l.length * w + 7) / 8 : Nat) : Int) := by
  rw [hm', w64 (n := ((l.length * w : Nat) : Int)) (by omega) (by omega), w64 (n := ((l.length * w : Nat) : Int) + 7) (by omega) (by omega), Int.tdiv_eq_ediv_of_nonneg (by omega), w64 (by omega) (by omega)]
  omega
 have fin : pbT ((l.length * w + 7) / 8) (allbits l w) = pb (allbits l w) := by unfold pbT pb; rw [allbits_len]
 have key : ∀ d i, i ≤ l.length → l.length - i ≤ d → Ev (fun k => q_packed.l0 k (w : Int) (pbT ((l.length * w + 7) / 8) (allbits (l.take i) w)) ((i * w : Nat) : Int) l (l.length : Int) (i : Int)) (pb (allbits l w)) := by
  intro d
  induction d with
  | zero =>
   intro i hi hd
   refine Ev.step (fun k => by rw [q_packed.l0]) (ev_neg (by omega) ?_)
   rw [List.take_of_length_le (by omega), fin]
   exact ev_some _
  | succ d ih =>
   intro i hi hd
   refine Ev.step (fun k => by rw [q_packed.l0]) ?_
   by_cases hlt : i < l.length
   ·refine ev_pos (by omega) (ev_pos (by omega) (ev_pos (by omega) ?_))
    have hmm : l.getD i 0 ∈ l := by
     simp only [List.getD, List.getElem?_eq_getElem hlt, Option.getD_some]
     exact List.getElem_mem hlt
    have hvi := hv _ hmm
    have hmul : (i + 1) * w ≤ l.length * w := Nat.mul_le_mul (by omega) (Nat.le_refl _)
    rw [Nat.add_mul, Nat.one_mul] at hmul
    have hal := allbits_len (l.take i) w
    rw [List.length_take, Nat.min_eq_left hi] at hal
    rw [rdD, w64 (by omega) (by omega)]
    have := rpacked_l1 ((l.length * w + 7) / 8) (by omega) (w : Int) (l.getD i 0) hvi.1 hvi.2 l (l.length : Int) (i : Int) (pb (allbits l w)) w (allbits (l.take i) w) (allbits_bits _ _) (by omega) hw ?_
    ·rw [hal] at this
     exact this
    ·rw [hal, ← allbits_take hlt, w64 (by omega) (by omega), show i * w + w = (i + 1) * w by rw [Nat.add_mul, Nat.one_mul]]
     exact ih (i + 1) (by omega) (by omega)
   ·refine ev_neg (by omega) ?_
    rw [List.take_of_length_le (by omega), fin]
    exact ev_some _
 unfold q_packed.f
 rw [hT]
 refine ev_pos (by omega) (ev_pos (by omega) ?_)
 have h0 := key l.length 0 (by omega) (by omega)
 have e0 : pbT ((l.length * w + 7) / 8) (allbits (l.take 0) w) = List.replicate (((l.length * w + 7) / 8 : Nat) : Int).toNat 0 := by
  rw [Int.toNat_natCast]
  unfold pbT allbits
  rw [List.take_zero, List.flatMap_nil]
  refine List.ext_getElem? fun i => ?_
  by_cases h : i < (l.length * w + 7) / 8
  ·rw [List.getElem?_map, List.getElem?_range h, List.getElem?_replicate, if_pos h]
   simp [byteN, List.getD]
  ·rw [List.getElem?_eq_none (by simp; omega), List.getElem?_eq_none (by simp; omega)]
 rw [e0] at h0
 simpa using h0
theorem rdistinct_eq {l : List Int} (hl : l.length ≤ 2000) : q_distinct.f l = some (dst l) := by
 unfold q_distinct.f s_Clone.f s_Sort.f s_Compact.f
 rw [if_pos (show l.length * 8 ≤ 140737488355328 by omega)]
 simp only [Option.bind_some]
 rw [if_pos (show l.length < 4611686018427387904 by omega)]
 rfl
theorem index_ev {d : List Int} (hs : d.Pairwise (· < ·)) (hd : d.length ≤ 100000) {v : Int} (h : v ∈ d) : Ev (fun k => s_Index.f k d v) (pl d v : Int) := by
 have hl := pl_lt h
 have key : ∀ n (i : Nat), i ≤ pl d v → pl d v - i ≤ n → Ev (fun k => s_Index.l0 k d v (d.length : Int) (i : Int)) (pl d v : Int) := by
  intro n
  induction n with
  | zero =>
   intro i hi hn
   rw [show i = pl d v by omega]
   refine Ev.step (fun k => by rw [s_Index.l0]) (ev_pos (by omega) (ev_pos (by omega) (ev_pos (by omega) (ev_pos ?_ (ev_some _)))))
   rw [rdD, pl_get h]
  | succ n ih =>
   intro i hi hn
   by_cases he : i = pl d v
   ·rw [he]
    refine Ev.step (fun k => by rw [s_Index.l0]) (ev_pos (by omega) (ev_pos (by omega) (ev_pos (by omega) (ev_pos ?_ (ev_some _)))))
    rw [rdD, pl_get h]
   ·have := (pl_iff hs h (show i < d.length by omega)).2 (by omega)
    refine Ev.step (fun k => by rw [s_Index.l0]) (ev_pos (by omega) (ev_pos (by omega) (ev_pos (by omega) (ev_neg ?_ ?_))))
    ·rw [rdD]; omega
    ·rw [w64 (by omega) (by omega)]
     exact ih (i + 1) (by omega) (by omega)
 exact key _ 0 (by omega) (Nat.le_refl _)
theorem places_ev {l : List Int} (hl : l.length ≤ 2000) : Ev (fun k => q_places.f k l (dst l)) (pls l) := by
 have hd := dst_len l
 have hs := dst_sorted l
 have key : ∀ n (i : Nat), i ≤ l.length → l.length - i ≤ n → Ev (fun k => q_places.l0 k (dst l) (((l.take i).map fun v => (pl (dst l) v : Int)) ++ List.replicate (l.length - i) 0) l (l.length : Int) (i : Int)) (pls l) := by
  intro n
  induction n with
  | zero =>
   intro i hi hn
   refine Ev.step (fun k => by rw [q_places.l0]) (ev_neg (by omega) ?_)
   rw [List.take_of_length_le (by omega), show l.length - i = 0 by omega, List.replicate_zero, List.append_nil]
   exact ev_some _
  | succ n ih =>
   intro i hi hn
   refine Ev.step (fun k => by rw [q_places.l0]) ?_
   by_cases hlt : i < l.length
   ·have hm : l.getD i 0 ∈ l := by
     simp only [List.getD, List.getElem?_eq_getElem hlt, Option.getD_some]
     exact List.getElem_mem hlt
    refine ev_pos (by omega) (ev_pos (by omega) (ev_pos (by omega) ?_))
    rw [rdD]
    refine Ev.bind (index_ev hs.1 (by omega) ((hs.2 _).2 hm)) (ev_pos (by simp; omega) ?_)
    rw [w64 (by omega) (by omega)]
    have := ih (i + 1) (by omega) (by omega)
    rw [List.take_add_one, List.map_append] at this
    have e : (((l.take i).map fun v => (pl (dst l) v : Int)) ++ List.replicate (l.length - i) 0).set (i : Int).toNat (pl (dst l) (l.getD i 0) : Int) = (l.take i).map (fun v => (pl (dst l) v : Int)) ++ (l[i]?.toList).map (fun v => (pl (dst l) v : Int)) ++ List.replicate (l.length - (i + 1)) 0 := by
     rw [Int.toNat_natCast, List.set_append_right _ _ (by simp; omega)]
     rw [show l.length - i = (l.length - (i + 1)) + 1 by omega, List.replicate_succ]
     simp [List.getD, hlt, Nat.min_eq_left hi]
    rw [e]
    exact this
   ·refine ev_neg (by omega) ?_
    rw [List.take_of_length_le (by omega), show l.length - i = 0 by omega, List.replicate_zero, List.append_nil]
    exact ev_some _
 unfold q_places.f
 refine ev_pos (by omega) (ev_pos (by omega) ?_)
 have := key _ 0 (by omega) (Nat.le_refl _)
 simpa using this
theorem rwidth_ev {x : Int} (h0 : 0 ≤ x) (h1 : x < 9223372036854775808) : q_width.f x = some ((Lib.bitLen x.toNat : Nat) : Int) := by
 unfold q_width.f bits_Len.f
 rw [u64w, Int.emod_eq_of_lt h0 (by omega), if_pos ⟨h0, by omega⟩]
 rfl
theorem rcheck_ev (l : List Int) : Ev (fun k => q_checkInts.f k l) (chk l) := by
 unfold q_checkInts.f chk
 by_cases h : l.length > 2000
 ·rw [if_pos h]
  exact ev_pos (by omega) (ev_some _)
 ·rw [if_neg h]
  refine ev_neg (by omega) ?_
  have key : ∀ n (i : Nat), i ≤ l.length → l.length - i ≤ n → Ev (fun k => q_checkInts.l0 k l (l.length : Int) (i : Int)) (if (l.drop i).all inR then 0 else 1) := by
   intro n
   induction n with
   | zero =>
    intro i hi hn
    refine Ev.step (fun k => by rw [q_checkInts.l0]) (ev_neg (by omega) ?_)
    rw [List.drop_eq_nil_of_le (by omega)]
    exact ev_some _
   | succ n ih =>
    intro i hi hn
    refine Ev.step (fun k => by rw [q_checkInts.l0]) ?_
    by_cases hlt : i < l.length
    ·refine ev_pos (by omega) (ev_pos (by omega) (ev_pos (by omega) ?_))
     rw [rdD, getD_drop_head (d := 0) hlt, List.all_cons]
     by_cases hin : inR (l.getD i 0) = true
     ·have h2 : -1000000000000000 ≤ l.getD i 0 ∧ l.getD i 0 ≤ 1000000000000000 := by simpa [inR] using hin
      refine ev_neg (by omega) (ev_neg (by omega) ?_)
      rw [hin, Bool.true_and, w64 (by omega) (by omega)]
      exact ih (i + 1) (by omega) (by omega)
     ·have h2 : ¬ (-1000000000000000 ≤ l.getD i 0 ∧ l.getD i 0 ≤ 1000000000000000) := fun h' => hin (by simpa [inR] using h')
      rw [eq_false_of_ne_true hin]
      by_cases h3 : l.getD i 0 < -1000000000000000
      ·exact ev_pos h3 (ev_some _)
      ·exact ev_neg h3 (ev_pos (by omega) (ev_some _))
    ·refine ev_neg (by omega) ?_
     rw [List.drop_eq_nil_of_le (by omega)]
     exact ev_some _
  exact key _ 0 (by omega) (Nat.le_refl _)
theorem rb_l0 {l : List Int} (hn : l.length ≤ 2000) (hv : ∀ v ∈ l, -4000000000000000 ≤ v ∧ v ≤ 4000000000000000) (d : Nat) : ∀ (i : Nat) (out : List Int), i ≤ l.length → l.length - i ≤ d → out.length + 10 * (l.length - i) ≤ 1000000 →
 Ev (fun k => q_bytesOf.l0 k out l (l.length : Int) (i : Int)) (out ++ nums (l.drop i)) := by
 induction d with
 | zero =>
  intro i out hi hd ho
  refine Ev.step (fun k => by rw [q_bytesOf.l0]) (ev_neg (by omega) ?_)
  rw [List.drop_eq_nil_of_le (by omega)]
  simpa [nums] using ev_some out
 | succ d ih =>
  intro i out hi hd ho
  refine Ev.step (fun k => by rw [q_bytesOf.l0]) ?_
  by_cases h : i < l.length
  ·have hb := hv _ (mem_getD h)
   have hl := num_len hb.1 hb.2
   refine ev_pos (by omega) (ev_pos (by omega) (ev_pos (by omega) ?_))
   rw [rdD]
   refine Ev.bind (rnumber_ev hb.1 hb.2) (ev_pos (by omega) ?_)
   rw [w64 (by omega) (by omega)]
   refine ev_eq (ih (i + 1) (out ++ num (l.getD i 0)) (by omega) (by omega) (by rw [List.length_append]; omega)) ?_
   rw [getD_drop_head (d := 0) h, nums, nums, List.flatMap_cons, List.append_assoc]
  ·refine ev_neg (by omega) ?_
   rw [List.drop_eq_nil_of_le (by omega)]
   simpa [nums] using ev_some out
theorem rr_l1 (x : List Int) (hx : x.length ≤ 2000) (hv : ∀ v ∈ x, -4000000000000000 ≤ v ∧ v ≤ 4000000000000000) (out : List Int) (i : Nat) (b : Int) (t : List Int) (hd_ : x.drop i = b :: t) (ho : out.length ≤ 1000000) (r : List Int) (e : Nat) :
 ∀ j, hdI b t = j + e → Ev (fun k => q_runs.l0 k x (out ++ num b ++ cnt (hdI b t + 1)) ((i + (hdI b t + 1) : Nat) : Int)) r →
  Ev (fun k => q_runs.l1 k x out (i : Int) ((i + (j + 1) : Nat) : Int)) r := by
 have hlen : x.length = i + (t.length + 1) := by
  have := congrArg List.length hd_
  simp at this
  omega
 have hget : ∀ q, x[i + q]? = (b :: t)[q]? := by
  intro q
  rw [← hd_, List.getElem?_drop]
 have hle := hdI_le b t
 have hi0 : x.getD i 0 = b := by
  have := hget 0
  simp at this
  simp [List.getD, this]
 have hbm := hv b (hi0 ▸ mem_getD (show i < x.length by omega))
 have fin : Unit → Ev (fun k => q_runs.l0 k x (out ++ num b ++ cnt (hdI b t + 1)) ((i + (hdI b t + 1) : Nat) : Int)) r →
  Ev (fun k => (q_number.f k (rd x (i : Int))).bind fun t498 => (if out.length + t498.length < 140737488355328 then ((some (out ++ t498 : List Int)).bind fun y501 => ((q_count.f k (wrap64 (((i + (hdI b t + 1) : Nat) : Int) - (i : Int)))).bind fun t504 => (if y501.length + t504.length < 140737488355328 then (q_runs.l0 k x (y501 ++ t504) ((i + (hdI b t + 1) : Nat) : Int)) else (none)))) else (none))) r := by
  intro _ h
  have hnl := num_len hbm.1 hbm.2
  have hcl := cnt_len10 (n := hdI b t + 1) (by omega)
  have hc : Ev (fun k => q_count.f k ((hdI b t + 1 : Nat) : Int)) (cnt (hdI b t + 1)) := rcount_ev (by omega)
  have hN : Ev (fun k => q_number.f k b) (num b) := rnumber_ev hbm.1 hbm.2
  have ew : wrap64 (((i + (hdI b t + 1) : Nat) : Int) - (i : Int)) = ((hdI b t + 1 : Nat) : Int) := by rw [w64 (by omega) (by omega)]; omega
  rw [rdD, hi0, ew]
  exact Ev.bind hN (ev_pos (by omega) (Ev.bind (ev_some _) (Ev.bind hc (ev_pos (by rw [List.length_append]; omega) h))))
 induction e with
 | zero =>
  intro j hj h
  have hj' : j = hdI b t := by omega
  subst hj'
  refine Ev.step (fun k => by rw [q_runs.l1]) ?_
  by_cases hin : i + (hdI b t + 1) < x.length
  ·obtain ⟨c, hc, hne⟩ := hdI_end (b := b) (l := t) (by omega)
   have hnx : x.getD (i + (hdI b t + 1)) 0 = c := by
    have h1 := hget (hdI b t + 1)
    simp only [List.getElem?_cons_succ, hc] at h1
    simp [List.getD, h1]
   refine ev_pos (by omega) (ev_pos (by omega) (ev_pos (by omega) (ev_pos (by omega) (ev_neg ?_ (fin () h)))))
   rw [rdD, rdD, hnx, hi0]
   exact hne
  ·exact ev_neg (by omega) (ev_pos (by omega) (ev_pos (by omega) (fin () h)))
 | succ e ih =>
  intro j hj h
  clear fin hbm hv ho
  have e2 := wadd (i + (j + 1)) 1 (by omega)
  rw [show ((1 : Nat) : Int) = 1 from rfl] at e2
  refine Ev.step (fun k => by rw [q_runs.l1]) ?_
  rw [e2]
  have hnx : x.getD (i + (j + 1)) 0 = b := by
   have h1 := hget (j + 1)
   have h2 := hdI_get (b := b) (l := t) (j := j) (by omega)
   simp only [List.getElem?_cons_succ, h2] at h1
   simp [List.getD, h1]
  refine ev_pos (by omega) (ev_pos (by omega) (ev_pos (by omega) (ev_pos (by omega) (ev_pos ?_ ?_))))
  ·rw [rdD, rdD, hnx, hi0]
  ·exact ih (j + 1) (by omega) h
theorem rr_l0 (x : List Int) (hx : x.length ≤ 2000) (hv : ∀ v ∈ x, -4000000000000000 ≤ v ∧ v ≤ 4000000000000000) (d : Nat) : ∀ (i : Nat) (out : List Int), i ≤ x.length → x.length - i ≤ d → out.length + 20 * (x.length - i) ≤ 1000000 →
 Ev (fun k => q_runs.l0 k x out (i : Int)) (out ++ rle (x.drop i)) := by
 induction d with
 | zero =>
  intro i out hi hdd ho
  refine Ev.step (fun k => by rw [q_runs.l0]) (ev_neg (by omega) ?_)
  rw [List.drop_eq_nil_of_le (by omega), rle_nil, List.append_nil]
  exact ev_some out
 | succ d ih =>
  intro i out hi hdd ho
  refine Ev.step (fun k => by rw [q_runs.l0]) ?_
  by_cases hlt : i < x.length
  ·obtain ⟨b, t, hbt⟩ : ∃ b t, x.drop i = b :: t := ⟨_, _, getD_drop_head (d := 0) hlt⟩
   have hlen : x.length = i + (t.length + 1) := by
    have := congrArg List.length hbt
    simp at this
    omega
   have hle := hdI_le b t
   have hbm : b ∈ x := List.mem_of_mem_drop (i := i) (by rw [hbt]; exact List.mem_cons_self ..)
   have hnl := num_len (hv b hbm).1 (hv b hbm).2
   have hcl := cnt_len10 (n := hdI b t + 1) (by omega)
   refine ev_pos (by omega) (Ev.step (fun k => by rw [q_runs.l1]) (ev_pos (by omega) (ev_pos (by omega) (ev_pos (by omega) (ev_pos (by omega) (ev_pos rfl ?_))))))
   have e1 := wadd i 1 (by omega)
   rw [show ((1 : Nat) : Int) = 1 from rfl] at e1
   rw [e1]
   refine rr_l1 x hx hv out i b t hbt (by omega) _ (hdI b t) 0 (by omega) ?_
   refine ev_eq (ih (i + (hdI b t + 1)) (out ++ num b ++ cnt (hdI b t + 1)) (by omega) (by omega) (by rw [List.length_append, List.length_append]; omega)) ?_
   rw [hbt, rle_cons, ← List.drop_drop, hbt, List.drop_succ_cons]
   simp only [List.append_assoc]
  ·refine ev_neg (by omega) ?_
   rw [List.drop_eq_nil_of_le (by omega), rle_nil, List.append_nil]
   exact ev_some out
theorem rruns_ev {x : List Int} (hx : x.length ≤ 2000) (hv : ∀ v ∈ x, -4000000000000000 ≤ v ∧ v ≤ 4000000000000000) : Ev (fun k => q_runs.f k x) (rle x) := by
 have := rr_l0 x hx hv _ 0 [] (by omega) (Nat.le_refl _) (by simp; omega)
 rw [List.nil_append, List.drop_zero] at this
 exact this
theorem rd5_l0 {l : List Int} (h : Okv l) (d : Nat) : ∀ (i : Nat) (out : List Int), i + 1 ≤ l.length → l.length - (i + 1) ≤ d → out.length + 10 * (l.length - i) ≤ 1000000 →
 Ev (fun k => q_deltas.l0 k l out ((i + 1 : Nat) : Int)) (out ++ dlt (l.getD i 0) (l.drop (i + 1))) := by
 have hn := h.1
 have done : ∀ (i : Nat) (out : List Int), i + 1 = l.length → Ev (fun k => q_deltas.l0 k l out ((i + 1 : Nat) : Int)) (out ++ dlt (l.getD i 0) (l.drop (i + 1))) := by
  intro i out hi
  refine Ev.step (fun k => by rw [q_deltas.l0]) (ev_neg (by omega) ?_)
  rw [List.drop_eq_nil_of_le (by omega), dlt, List.append_nil]
  exact ev_some _
 induction d with
 | zero => intro i out hi hd ho; exact done i out (by omega)
 | succ d ih =>
  intro i out hi hd ho
  by_cases hlt : i + 1 < l.length
  ·have hb := h.2 _ (mem_getD hlt)
   have hb0 := h.2 _ (mem_getD (show i < l.length by omega))
   have hl := num_len (v := l.getD (i + 1) 0 - l.getD i 0) (by omega) (by omega)
   have e1 : wrap64 (((i + 1 : Nat) : Int) - 1) = (i : Int) := by rw [w64 (by omega) (by omega)]; omega
   refine Ev.step (fun k => by rw [q_deltas.l0]) ?_
   rw [e1, rdD, rdD, w64 (n := l.getD (i + 1) 0 - l.getD i 0) (by omega) (by omega), w64 (n := ((i + 1 : Nat) : Int) + 1) (by omega) (by omega)]
   refine ev_pos (by omega) (ev_pos (by omega) (ev_pos (by omega) (ev_pos (by omega) ?_)))
   refine Ev.bind (rnumber_ev (by omega) (by omega)) (ev_pos (by omega) ?_)
   refine ev_eq (ih (i + 1) (out ++ num (l.getD (i + 1) 0 - l.getD i 0)) (by omega) (by omega) (by rw [List.length_append]; omega)) ?_
   rw [getD_drop_head (d := 0) hlt, dlt, List.append_assoc]
  ·exact done i out (by omega)
theorem rdeltas_ev {l : List Int} (h : Okv l) (hz : l ≠ []) : Ev (fun k => q_deltas.f k l) (dlt 0 l) := by
 have hn := h.1
 have hp := List.length_pos_iff.2 hz
 have hb := h.2 _ (mem_getD hp)
 have hl := num_len (v := l.getD 0 0) (by omega) (by omega)
 unfold q_deltas.f
 refine ev_pos (by omega) ?_
 rw [show (0 : Int) = ((0 : Nat) : Int) from rfl, rdD]
 refine Ev.bind (rnumber_ev (by omega) (by omega)) ?_
 refine ev_eq (rd5_l0 h _ 0 _ (by omega) (Nat.le_refl _) (by omega)) ?_
 have e : l = l.getD 0 0 :: l.drop 1 := by
  have := getD_drop_head (d := 0) hp
  rwa [List.drop_zero] at this
 conv => rhs; rw [e]
 rw [dlt]
 simp
theorem rd3_l0 {l : List Int} (hl : l.length ≤ 2000) (hv : ∀ v ∈ l, -1000000000000000 ≤ v ∧ v ≤ 1000000000000000) (d : Nat) : ∀ (i : Nat) (out : List Int), i + 1 ≤ (dst l).length → (dst l).length - (i + 1) ≤ d → out.length + 10 * ((dst l).length - i) ≤ 1000000 →
 Ev (fun k => q_dict.l0 k l (dst l) out ((i + 1 : Nat) : Int)) (out ++ dif ((dst l).getD i 0) ((dst l).drop (i + 1)) ++ pb (allbits (pls l) (Lib.bitLen ((dst l).length - 1)))) := by
 have hs := dst_sorted l
 have hdl := dst_len l
 have hpb := pb_len_le (l := pls l) (w := Lib.bitLen ((dst l).length - 1)) (by rw [pls_len]; exact hl) (bitLen64 (by omega))
 have done : ∀ (i : Nat) (out : List Int), i + 1 = (dst l).length → out.length ≤ 1000000 → Ev (fun k => q_dict.l0 k l (dst l) out ((i + 1 : Nat) : Int)) (out ++ dif ((dst l).getD i 0) ((dst l).drop (i + 1)) ++ pb (allbits (pls l) (Lib.bitLen ((dst l).length - 1)))) := by
  intro i out hi ho
  refine Ev.step (fun k => by rw [q_dict.l0]) (ev_neg (by omega) ?_)
  rw [List.drop_eq_nil_of_le (by omega), dif, List.append_nil, w64 (by omega) (by omega), rwidth_ev (by omega) (by omega)]
  refine Ev.bind (places_ev hl) (Ev.bind (ev_some _) (Ev.bind ?_ (ev_pos (by omega) (ev_some _))))
  rw [show (((dst l).length : Int) - 1).toNat = (dst l).length - 1 by omega]
  exact rpacked_ev (by rw [pls_len]; exact hl) (bitLen64 (by omega)) (fun v h => by have := pls_range v h; omega)
 induction d with
 | zero =>
  intro i out hi hd ho
  exact done i out (by omega) (by omega)
 | succ d ih =>
  intro i out hi hd ho
  by_cases h : i + 1 < (dst l).length
  ·have hb1 := hv _ ((hs.2 _).1 (mem_getD h))
   have hb0 := hv _ ((hs.2 _).1 (mem_getD (show i < (dst l).length by omega)))
   have hlt : (dst l).getD i 0 < (dst l).getD (i + 1) 0 := by
    have := List.pairwise_iff_getElem.1 hs.1 i (i + 1) (by omega) h (by omega)
    simpa [List.getD, h, show i < (dst l).length by omega] using this
   have hcl := cnt_len10 (n := ((dst l).getD (i + 1) 0 - (dst l).getD i 0).toNat) (by omega)
   have ei : wrap64 (((i + 1 : Nat) : Int) - 1) = (i : Int) := by rw [w64 (by omega) (by omega)]; omega
   have ec : wrap64 ((dst l).getD (i + 1) 0 - (dst l).getD i 0) = (((dst l).getD (i + 1) 0 - (dst l).getD i 0).toNat : Int) := by
    rw [w64 (by omega) (by omega)]; omega
   refine Ev.step (fun k => by rw [q_dict.l0]) ?_
   rw [ei, rdD, rdD, ec, w64 (by omega) (by omega)]
   refine ev_pos (by omega) (ev_pos (by omega) (ev_pos (by omega) (ev_pos (by omega) ?_)))
   refine Ev.bind (rcount_ev (by omega)) (ev_pos (by omega) ?_)
   refine ev_eq (ih (i + 1) (out ++ cnt ((dst l).getD (i + 1) 0 - (dst l).getD i 0).toNat) (by omega) (by omega) (by rw [List.length_append]; omega)) ?_
   rw [getD_drop_head (d := 0) h, dif]
   simp only [List.append_assoc]
  ·exact done i out (by omega) (by omega)
theorem rdict_ev {l : List Int} (h : Okv l) (hz : l ≠ []) : Ev (fun k => q_dict.f k l) (dict l) := by
 have hn := h.1
 have hdl := dst_len l
 have hdp := dst_ne hz
 have hm := h.2 _ (((dst_sorted l).2 _).1 (mem_getD hdp))
 have hc2 := cnt_len10 (n := (dst l).length) (by omega)
 have hnl := num_len (v := (dst l).getD 0 0) (by omega) (by omega)
 unfold q_dict.f
 rw [rdistinct_eq hn]
 refine Ev.bind (ev_some _) (Ev.bind (rcount_ev (by omega)) (ev_pos (by omega) ?_))
 rw [show (0 : Int) = ((0 : Nat) : Int) from rfl, rdD]
 refine Ev.bind (rnumber_ev (by omega) (by omega)) (ev_pos (by omega) ?_)
 refine ev_eq (rd3_l0 hn h.2 _ 0 _ (by omega) (Nat.le_refl _) (by rw [List.length_append]; omega)) ?_
 unfold dict
 simp only [List.append_assoc]
theorem rf_l0 {l : List Int} (h : Okv l) (hz : l ≠ []) (d : Nat) : ∀ i : Nat, i ≤ l.length → l.length - i ≤ d →
 Ev (fun k => q_frame.l0 k (Lib.minOf l) (fw l : Int) (((l.take i).map fun v => v - Lib.minOf l) ++ List.replicate (l.length - i) 0) l (l.length : Int) (i : Int)) (frame l) := by
 have h1 := h.2 _ (maxOf_ge l hz).1
 have h2 := h.2 _ (minOf_le l hz).1
 have hl := h.1
 have hfw := fw_le h hz
 have hnl := num_len (v := Lib.minOf l) (by omega) (by omega)
 have hpb := pb_len_le (l := fs l) (w := fw l) (by simpa [fs] using hl) (by omega)
 have done : Ev (fun k => (q_number.f k (Lib.minOf l)).bind fun t584 => (if t584.length < 140737488355328 then ((some (t584 ++ [((fw l : Int)) % 256] : List Int)).bind fun y587 => ((q_packed.f k (fs l) (fw l : Int)).bind fun t590 => (if y587.length + t590.length < 140737488355328 then (some (y587 ++ t590)) else (none)))) else (none))) (frame l) := by
  rw [Int.emod_eq_of_lt (show 0 ≤ (fw l : Int) by omega) (by omega)]
  refine Ev.bind (rnumber_ev (by omega) (by omega)) (ev_pos (by omega) (Ev.bind (ev_some _) ?_))
  refine Ev.bind (rpacked_ev (by simpa [fs] using hl) (by omega) (fun v hv => by have := fs_range h hz v hv; omega)) (ev_pos (by rw [List.length_append, List.length_singleton]; omega) ?_)
  exact ev_some _
 induction d with
 | zero =>
  intro i hi hd
  refine Ev.step (fun k => by rw [q_frame.l0]) (ev_neg (by omega) ?_)
  rw [List.take_of_length_le (by omega), show l.length - i = 0 by omega, List.replicate_zero, List.append_nil]
  exact done
 | succ d ih =>
  intro i hi hd
  refine Ev.step (fun k => by rw [q_frame.l0]) ?_
  by_cases hlt : i < l.length
  ·have hb := h.2 _ (mem_getD hlt)
   refine ev_pos (by omega) (ev_pos (by omega) (ev_pos (by omega) (ev_pos (by simp; omega) ?_)))
   rw [rdD, w64 (by omega) (by omega), w64 (by omega) (by omega), Int.toNat_natCast]
   have := ih (i + 1) (by omega) (by omega)
   have e : (((l.take i).map fun v => v - Lib.minOf l) ++ List.replicate (l.length - i) 0).set i (l.getD i 0 - Lib.minOf l) = ((l.take (i + 1)).map fun v => v - Lib.minOf l) ++ List.replicate (l.length - (i + 1)) 0 := by
    rw [List.set_append_right _ _ (by simp; omega), List.take_add_one, List.map_append, show l.length - i = (l.length - (i + 1)) + 1 by omega, List.replicate_succ]
    simp [List.getD, hlt, Nat.min_eq_left hi]
   rw [e]
   exact this
  ·refine ev_neg (by omega) ?_
   rw [List.take_of_length_le (by omega), show l.length - i = 0 by omega, List.replicate_zero, List.append_nil]
   exact done
theorem rframe_ev {l : List Int} (h : Okv l) (hz : l ≠ []) : Ev (fun k => q_frame.f k l) (frame l) := by
 have hx := h.2 _ (maxOf_ge l hz).1
 have hm := h.2 _ (minOf_le l hz).1
 have hle := (minOf_le l hz).2 _ (maxOf_ge l hz).1
 have hl := h.1
 unfold q_frame.f s_Min.f s_Max.f
 rw [if_neg hz, if_neg hz]
 refine Ev.bind (ev_some _) (Ev.bind (ev_some _) (Ev.bind (ev_some _) ?_))
 rw [w64 (by omega) (by omega), rwidth_ev (by omega) (by omega)]
 refine Ev.bind (ev_some _) (ev_pos (by omega) (ev_pos (by omega) ?_))
 have := rf_l0 h hz _ 0 (by omega) (Nat.le_refl _)
 unfold fw at this
 simpa using this
theorem rbytes_ev {c : Nat} (h1 : 1 ≤ c) (h5 : c ≤ 5) {l : List Int} (h : Okv l) : Ev (fun k => q_bytesOf.f k (c : Int) l) (enc c l) := by
 have hn := h.1
 have hcl := cnt_len10 (n := l.length) (by omega)
 have h4 : ∀ v ∈ l, -4000000000000000 ≤ v ∧ v ≤ 4000000000000000 := fun v hv => by have := h.2 v hv; omega
 have hel := enc_len (c := c) h
 have eE : enc c l = ([(c : Int)] ++ cnt l.length) ++ (if l = [] then [] else body c l) := by simp [enc]
 rw [eE] at hel ⊢
 have hout : ([(c : Int)] ++ cnt l.length).length ≤ 11 := by rw [List.length_append, List.length_singleton]; omega
 unfold q_bytesOf.f
 rw [Int.emod_eq_of_lt (show 0 ≤ (c : Int) by omega) (by omega)]
 refine Ev.bind (ev_some _) (Ev.bind (rcount_ev (by omega)) (ev_pos (by simp; omega) (Ev.bind (ev_some _) ?_)))
 by_cases hz : l = []
 ·rw [if_pos hz]
  exact ev_pos (by rw [hz]; rfl) (ev_eq (ev_some _) (by simp))
 ·rw [if_neg hz] at hel ⊢
  rw [List.length_append] at hel
  have hp := List.length_pos_iff.2 hz
  refine ev_neg (by omega) ?_
  unfold body at hel ⊢
  by_cases e1 : c = 1
  ·rw [if_pos e1]
   exact ev_pos (by omega) (rb_l0 hn h4 _ 0 _ (by omega) (Nat.le_refl _) (by omega))
  rw [if_neg e1] at hel ⊢
  refine ev_neg (by omega) ?_
  by_cases e2 : c = 2
  ·rw [if_pos e2] at hel ⊢
   exact ev_pos (by omega) (Ev.bind (rruns_ev hn h4) (ev_pos (by omega) (ev_some _)))
  rw [if_neg e2] at hel ⊢
  refine ev_neg (by omega) ?_
  by_cases e3 : c = 3
  ·rw [if_pos e3] at hel ⊢
   exact ev_pos (by omega) (Ev.bind (rdict_ev h hz) (ev_pos (by omega) (ev_some _)))
  rw [if_neg e3] at hel ⊢
  refine ev_neg (by omega) ?_
  by_cases e4 : c = 4
  ·rw [if_pos e4] at hel ⊢
   exact ev_pos (by omega) (Ev.bind (rframe_ev h hz) (ev_pos (by omega) (ev_some _)))
  rw [if_neg e4] at hel ⊢
  exact ev_neg (by omega) (Ev.bind (rdeltas_ev h hz) (ev_pos (by omega) (ev_some _)))
theorem rEncode_ev (c : Int) (l : List Int) : Ev (fun k => q_Encode.f k c l) (encAns c l) := by
 have j0 : ∀ out : Bool, out = !decide (1 ≤ c ∧ c ≤ 5) → Ev (fun k => q_Encode.j0 k c l out) (encAns c l) := by
  intro out ho
  refine Ev.step (fun k => by rw [q_Encode.j0]) ?_
  unfold encAns
  by_cases hc : 1 ≤ c ∧ c ≤ 5
  ·obtain rfl : out = false := by rw [ho, decide_eq_true hc]; rfl
   rw [if_pos hc]
   refine ev_neg (by simp) (Ev.bind (rcheck_ev l) ?_)
   by_cases h0 : chk l = 0
   ·rw [if_pos h0]
    have := rbytes_ev (c := c.toNat) (by omega) (by omega) (chk_ok.1 h0)
    rw [Int.toNat_of_nonneg (by omega)] at this
    exact ev_pos h0 (Ev.bind this (ev_some _))
   ·rw [if_neg h0]
    exact ev_neg h0 (ev_some _)
  ·obtain rfl : out = true := by rw [ho, decide_eq_false hc]; rfl
   rw [if_neg hc]
   exact ev_pos rfl (ev_some _)
 unfold q_Encode.f
 by_cases h1 : c < 1
 ·exact ev_pos h1 (j0 true (by rw [decide_eq_false (fun h => by omega)]; rfl))
 ·refine ev_neg h1 (j0 _ ?_)
  by_cases h5 : c > 5
  ·rw [decide_eq_true h5, decide_eq_false (fun h => by omega)]; rfl
  ·rw [decide_eq_false h5, decide_eq_true ⟨by omega, by omega⟩]; rfl
/-- The best of the codes from i on, if the best before them is b. -/
theorem rBest_l0 {l : List Int} (h : Okv l) (n : Nat) : ∀ i b : Nat, i + n = 6 → 1 ≤ b → b < i → Ev (fun k => q_Best.l0 k l (b : Int) (i : Int)) ((bst l n i b : Int), 0) := by
 induction n with
 | zero =>
  intro i b hi h1 hb
  refine Ev.step (fun k => by rw [q_Best.l0]) ?_
  exact ev_neg (show ¬ (i : Int) ≤ 5 by omega) (ev_some _)
 | succ n ih =>
  intro i b hi h1 hb
  refine Ev.step (fun k => by rw [q_Best.l0]) (ev_pos (by omega) (Ev.bind (rbytes_ev (by omega) (by omega) h) (Ev.bind (rbytes_ev h1 (by omega) h) ?_)))
  rw [w64 (by omega) (by omega), bst, if_neg (show ¬ b = 0 by omega)]
  by_cases hlt : el l i < el l b
  ·rw [if_pos hlt]
   exact ev_pos (by exact_mod_cast hlt) (ih (i + 1) i (by omega) (by omega) (by omega))
  ·rw [if_neg hlt]
   exact ev_neg (by exact_mod_cast hlt) (ih (i + 1) b (by omega) h1 (by omega))
theorem rBest_ev (l : List Int) : Ev (fun k => q_Best.f k l) (bestAns l) := by
 unfold q_Best.f bestAns
 refine Ev.bind (rcheck_ev l) ?_
 by_cases h0 : chk l = 0
 ·rw [if_pos h0]
  have := rBest_l0 (chk_ok.1 h0) 4 2 1 rfl (by omega) (by omega)
  have e : bestOf l = bst l 4 2 1 := by unfold bestOf; rw [bst, if_pos rfl]
  rw [e]
  exact ev_pos h0 this
 ·rw [if_neg h0]
  exact ev_neg h0 (ev_some _)
theorem rbyteB (s : List Int) (bad : Bool) (h : Byt s) : q_reader_byte.f s bad = some (s.headD 0, s.tail, bad || s.isEmpty) := by
 cases s with
 | nil => simp [q_reader_byte.f, wrap64]
 | cons b t =>
  have hb := h b (List.mem_cons_self ..)
  simp [q_reader_byte.f, w64 (show -9223372036854775808 ≤ b by omega) (show b ≤ 9223372036854775807 by omega)]
theorem head0 {s : List Int} (h : Byt s) : 0 ≤ s.headD 0 ∧ s.headD 0 ≤ 255 := by
 cases s with
 | nil => simp
 | cons b t => exact h b (List.mem_cons_self ..)
theorem Byt.tail {s : List Int} (h : Byt s) : Byt s.tail := by rw [← List.drop_one]; exact h.drop 1
/-- What a count of the reference leaves. -/
def qct (s : List Int) (bad : Bool) : Int × List Int × Bool := if bad = true then (s.headD 0 % 128, s.tail, true) else rc 8 0 0 s
theorem qct_ev {s : List Int} (bad : Bool) (hs : Byt s) : Ev (fun k => q_reader_count.f k s bad) (qct s bad) := by
 cases bad with
 | false => exact rcount2_ev hs
 | true =>
  have hh := head0 hs
  have e : Go.bits .or .i64 0 (shl .i64 (Go.bits .and .i64 (s.headD 0) 127) 0) = s.headD 0 % 128 :=
   (orshl (v := 0) (i := 0) (b := s.headD 0) (by omega) (by simp) hh.1 hh.2 (by omega)).trans (by simp)
  show Ev (fun k => q_reader_count.l0 k 0 0 s true) (s.headD 0 % 128, s.tail, true)
  refine Ev.step (fun k => by rw [q_reader_count.l0]) (ev_pos (by omega) ?_)
  rw [rbyteB s true hs]
  refine Ev.bind (ev_some _) (ev_pos (by omega) ?_)
  dsimp only
  rw [e]
  by_cases h : s.headD 0 < 128
  ·exact ev_pos h (ev_some _)
  ·exact ev_neg h (ev_pos (by simp) (ev_some _))
theorem qct_val (s : List Int) (bad : Bool) : 0 ≤ (qct s bad).1 ∧ (qct s bad).1 < 72057594037927936 := by
 unfold qct
 split
 ·dsimp only; omega
 ·have := rc_val 8 0 0 s (by omega) (by simp)
  exact ⟨this.1, by omega⟩
theorem qct_byt {s : List Int} {bad : Bool} (h : Byt s) : Byt (qct s bad).2.1 := by
 unfold qct
 split
 ·exact h.tail
 ·exact h.rc
theorem qct_bad (s : List Int) : (qct s true).2.2 = true := rfl
theorem qct_cnt {n : Nat} (rest : List Int) (hn : n < 72057594037927936) : qct (cnt n ++ rest) false = ((n : Int), rest, false) := by
 unfold qct
 rw [if_neg (by simp), rc_cnt8 rest hn]
/-- What a number of the reference leaves. -/
def qnt (s : List Int) (bad : Bool) : Int × List Int × Bool := (unz (qct s bad).1, (qct s bad).2.1, (qct s bad).2.2)
theorem qnt_ev {s : List Int} (bad : Bool) (hs : Byt s) : Ev (fun k => q_reader_number.f k s bad) (qnt s bad) := by
 unfold q_reader_number.f qnt
 refine Ev.bind (qct_ev bad hs) ?_
 have hv := qct_val s bad
 have et : Int.tmod (qct s bad).1 2 = (qct s bad).1 % 2 := Int.tmod_eq_emod_of_nonneg hv.1
 unfold unz
 by_cases h : (qct s bad).1 % 2 = 1
 ·rw [if_pos h]
  refine ev_pos (by rw [et]; exact h) (ev_eq (ev_some _) ?_)
  have e1 : wrap64 (-wrap64 ((qct s bad).1 + 1)) = -((qct s bad).1 + 1) := by rw [w64 (n := (qct s bad).1 + 1) (by omega) (by omega), w64 (by omega) (by omega)]
  rw [e1, Int.neg_tdiv, Int.tdiv_eq_ediv_of_nonneg (by omega), w64 (by omega) (by omega)]
 ·rw [if_neg h]
  refine ev_neg (by rw [et]; exact h) (ev_eq (ev_some _) ?_)
  rw [Int.tdiv_eq_ediv_of_nonneg hv.1, w64 (by omega) (by omega)]
theorem qnt_byt {s : List Int} {bad : Bool} (h : Byt s) : Byt (qnt s bad).2.1 := qct_byt h
theorem qnt_num {v : Int} (rest : List Int) (h0 : -4000000000000000 ≤ v) (h1 : v ≤ 4000000000000000) : qnt (num v ++ rest) false = (v, rest, false) := by
 unfold qnt num
 rw [qct_cnt rest (zig_lt h0 h1)]
 simp only [unz_zig]
theorem orbit {v b : Int} (h0 : 0 ≤ v) (h1 : v < 1152921504606846976) (b0 : 0 ≤ b) (b1 : b ≤ 1) : Go.bits .or .i64 (v * 2) b = 2 * v + b := by
 obtain ⟨a, rfl⟩ := Int.eq_ofNat_of_zero_le h0
 obtain ⟨c, rfl⟩ := Int.eq_ofNat_of_zero_le b0
 have e := Nat.two_pow_add_eq_or_of_lt (b := c) (i := 1) (by omega) a
 rw [show (a : Int) * 2 = ((2 ^ 1 * a : Nat) : Int) by omega, (bits_nat .i64 63 (by decide) (fun n a b => by rw [IntKind.wrap_i64]; omega) (2 ^ 1 * a) c (by omega) (by omega)).2, ← e]
 omega
theorem q_l1 {s : List Int} (hs : Byt s) (bad : Bool) (m : Int) (w : Nat) (hw : w ≤ 60) (x31 x32 : Int) (i : Nat) (p : Nat) (hp : p + w ≤ 1000000) (hl : p + w ≤ 8 * s.length) (r : Ans) (d : Nat) : ∀ (j : Nat) (row : List Int), j + d = w → i < row.length → row.length ≤ 100000 → row.getD i 0 = bv s p j →
 Ev (fun k => q_reader_unpacked.l0 k m (w : Int) (row.set i (bv s p w)) ((p + w : Nat) : Int) x31 (wrap64 (x32 + 1)) s bad) r →
 Ev (fun k => q_reader_unpacked.l1 k m (w : Int) row ((p + j : Nat) : Int) (i : Int) x31 x32 (w : Int) (j : Int) s bad) r := by
 induction d with
 | zero =>
  intro j row hj hi hr hv h
  obtain rfl : j = w := by omega
  refine Ev.step (fun k => by rw [q_reader_unpacked.l1]) (ev_neg (by omega) ?_)
  have e : row.set i (bv s p j) = row := by
   rw [← hv]
   refine List.ext_getElem? fun q => ?_
   rw [List.getElem?_set]
   by_cases hq : i = q
   ·subst hq
    rw [if_pos rfl, if_pos hi]
    simp [List.getD, hi]
   ·rw [if_neg hq]
  rw [e] at h
  exact h
 | succ d ih =>
  intro j row hj hi hr hv h
  have hb := bv_bound s p j
  have h60 : (2 : Int) ^ j ≤ 2 ^ 59 := by
   have := Nat.pow_le_pow_right (n := 2) (by omega) (show j ≤ 59 by omega)
   exact_mod_cast this
  have hbit : 0 ≤ bitN s (p + j) ∧ bitN s (p + j) ≤ 1 := by unfold bitN; omega
  refine Ev.step (fun k => by rw [q_reader_unpacked.l1]) ?_
  rw [td8 (p + j) (by omega), tm8, bit_eq hs, rdD, hv, w64 (n := bv s p j * 2) (by omega) (by omega), orbit hb.1 (by omega) hbit.1 hbit.2, w64 (n := ((p + j : Nat) : Int) + 1) (by omega) (by omega), w64 (n := (j : Int) + 1) (by omega) (by omega)]
  refine ev_pos (by omega) (ev_pos (by omega) (ev_pos (by omega) (ev_pos (by omega) (ev_pos (by omega) (ev_pos (by omega) ?_)))))
  rw [Int.toNat_natCast]
  exact ih (j + 1) (row.set i (2 * bv s p j + bitN s (p + j))) (by omega) (by simpa using hi) (by simpa using hr) (by simp [List.getD, hi, bv]) (by rw [List.set_set]; exact h)
theorem q_ev {s : List Int} (hs : Byt s) (bad : Bool) {m w : Nat} (hm : m ≤ 2000) (hw : w ≤ 255) : Ev (fun k => q_reader_unpacked.f k s bad (m : Int) (w : Int)) (if w ≤ 60 ∧ (m * w + 7) / 8 ≤ s.length then (ups s m w, s.drop ((m * w + 7) / 8), bad) else ([], s, true)) := by
 have hmul : m * w ≤ 2000 * 255 := Nat.mul_le_mul hm hw
 have hT : wrap64 (Int.tdiv (wrap64 (wrap64 ((m : Int) * (w : Int)) + 7)) 8) = (((m * w + 7) / 8 : Nat) : Int) := by
  rw [show (m : Int) * (w : Int) = ((m * w : Nat) : Int) by rw [Int.natCast_mul], w64 (n := ((m * w : Nat) : Int)) (by omega) (by omega), w64 (n := ((m * w : Nat) : Int) + 7) (by omega) (by omega), Int.tdiv_eq_ediv_of_nonneg (by omega), w64 (by omega) (by omega)]
  omega
 have stop : Ev (fun k => q_reader_unpacked.j0 k (m : Int) (w : Int) true s bad) ([], s, true) :=
  Ev.step (fun k => by rw [q_reader_unpacked.j0]) (ev_pos rfl (ev_some _))
 unfold q_reader_unpacked.f
 rw [hT]
 by_cases h60 : w ≤ 60
 ·refine ev_neg (by omega) ?_
  by_cases hl : (m * w + 7) / 8 ≤ s.length
  ·rw [if_pos ⟨h60, hl⟩, show decide ((((m * w + 7) / 8 : Nat) : Int) > (s.length : Int)) = false by simp; omega]
   refine Ev.step (fun k => by rw [q_reader_unpacked.j0]) (ev_neg (by simp) (ev_pos (by omega) (ev_pos (by omega) (Ev.bind (ev_some _) ?_))))
   rw [Int.toNat_natCast, List.length_replicate]
   have fin : ∀ x8 : Int, Ev (fun k => q_reader_unpacked.l0 k (m : Int) (w : Int) (ups s m w) x8 (m : Int) (m : Int) s bad) (ups s m w, s.drop ((m * w + 7) / 8), bad) := by
    intro x8
    refine Ev.step (fun k => by rw [q_reader_unpacked.l0]) ?_
    rw [hT, Int.toNat_natCast]
    exact ev_neg (by omega) (ev_pos (by omega) (ev_pos (by omega) (ev_some _)))
   have key : ∀ d i, i ≤ m → m - i ≤ d → Ev (fun k => q_reader_unpacked.l0 k (m : Int) (w : Int) (((List.range i).map fun q => bv s (q * w) w) ++ List.replicate (m - i) 0) ((i * w : Nat) : Int) (m : Int) (i : Int) s bad) (ups s m w, s.drop ((m * w + 7) / 8), bad) := by
    intro d
    induction d with
    | zero =>
     intro i hi hd
     rw [show m - i = 0 by omega, List.replicate_zero, List.append_nil, show i = m by omega]
     exact fin _
    | succ d ih =>
     intro i hi hd
     by_cases hlt : i < m
     ·refine Ev.step (fun k => by rw [q_reader_unpacked.l0]) (ev_pos (by omega) ?_)
      have hmul2 : (i + 1) * w ≤ m * w := Nat.mul_le_mul (by omega) (Nat.le_refl _)
      rw [Nat.add_mul, Nat.one_mul] at hmul2
      have hlen : (((List.range i).map fun q => bv s (q * w) w) ++ List.replicate (m - i) 0).length = m := by simp; omega
      have := q_l1 hs bad (m : Int) w h60 (m : Int) (i : Int) i (i * w) (by omega) (by omega) (ups s m w, s.drop ((m * w + 7) / 8), bad) w 0 (((List.range i).map fun q => bv s (q * w) w) ++ List.replicate (m - i) 0) (by omega) (by omega) (by omega) ?_ ?_
      ·exact this
      ·rw [List.getD, List.getElem?_append_right (by simp), List.getElem?_replicate, bv]
       split <;> rfl
      ·rw [w64 (by omega) (by omega)]
       have hn := ih (i + 1) (by omega) (by omega)
       rw [Nat.add_mul, Nat.one_mul] at hn
       have e : (((List.range i).map fun q => bv s (q * w) w) ++ List.replicate (m - i) 0).set i (bv s (i * w) w) = ((List.range (i + 1)).map fun q => bv s (q * w) w) ++ List.replicate (m - (i + 1)) 0 := by
        rw [List.set_append_right _ _ (by simp), List.range_succ, List.map_append, show m - i = (m - (i + 1)) + 1 by omega, List.replicate_succ]
        simp
       rw [e]
       exact hn
     ·rw [show m - i = 0 by omega, List.replicate_zero, List.append_nil, show i = m by omega]
      exact fin _
   have := key m 0 (by omega) (by omega)
   simpa using this
  ·rw [if_neg (fun h => hl h.2), show decide ((((m * w + 7) / 8 : Nat) : Int) > (s.length : Int)) = true by simp; omega]
   exact stop
 ·rw [if_neg (fun h => h60 h.1)]
  exact ev_pos (by omega) stop
/-- Distinct values by their numbers. -/
theorem p_l0 {of : List Int} (s : List Int) (bad : Bool) (u : List Int) (hu : u.length ≤ 2000) (h0 : ∀ q ∈ u, 0 ≤ q) (d : Nat) : ∀ (i : Nat) (pre : List Int), pre.length = i → i ≤ u.length → u.length - i ≤ d →
 (∃ r : Ans, Ev (fun k => q_reader_picked.l0 k of (pre ++ List.replicate (u.length - i) 0) u (u.length : Int) (i : Int) s bad) r) ∧
 ((∀ q ∈ u, q < (of.length : Int)) → Ev (fun k => q_reader_picked.l0 k of (pre ++ List.replicate (u.length - i) 0) u (u.length : Int) (i : Int) s bad) (pre ++ (u.drop i).map (rd of), s, bad)) := by
 induction d with
 | zero =>
  intro i pre hp hi hd
  have hf : Ev (fun k => q_reader_picked.l0 k of (pre ++ List.replicate (u.length - i) 0) u (u.length : Int) (i : Int) s bad) (pre ++ (u.drop i).map (rd of), s, bad) := by
   refine Ev.step (fun k => by rw [q_reader_picked.l0]) (ev_neg (by omega) ?_)
   rw [List.drop_eq_nil_of_le (by omega), show u.length - i = 0 by omega]
   exact ev_some _
  exact ⟨⟨_, hf⟩, fun _ => hf⟩
 | succ d ih =>
  intro i pre hp hi hd
  by_cases hlt : i < u.length
  ·have hm := mem_getD hlt
   have hq0 := h0 _ hm
   have hlen : (pre ++ List.replicate (u.length - i) 0).length = u.length := by simp; omega
   have hset : (pre ++ List.replicate (u.length - i) 0).set i (rd of (u.getD i 0)) = (pre ++ [rd of (u.getD i 0)]) ++ List.replicate (u.length - (i + 1)) 0 := by
    rw [List.set_append_right _ _ (by omega), hp, Nat.sub_self, show u.length - i = (u.length - (i + 1)) + 1 by omega, List.replicate_succ, List.set_cons_zero, List.append_assoc]
    rfl
   obtain ⟨⟨r, hr⟩, h2⟩ := ih (i + 1) (pre ++ [rd of (u.getD i 0)]) (by simp [hp]) (by omega) (by omega)
   have head : ∀ r : Ans, u.getD i 0 < (of.length : Int) → Ev (fun k => q_reader_picked.l0 k of (pre ++ [rd of (u.getD i 0)] ++ List.replicate (u.length - (i + 1)) 0) u (u.length : Int) ((i + 1 : Nat) : Int) s bad) r → Ev (fun k => q_reader_picked.l0 k of (pre ++ List.replicate (u.length - i) 0) u (u.length : Int) (i : Int) s bad) r := by
    intro r hq h
    refine Ev.step (fun k => by rw [q_reader_picked.l0]) ?_
    rw [rdD, Int.toNat_natCast, hset, w64 (by omega) (by omega)]
    exact ev_pos (by omega) (ev_pos (by omega) (ev_pos (by omega) (ev_neg (by omega) (ev_pos (by omega) (ev_pos (by omega) (ev_pos (by omega) h))))))
   constructor
   ·by_cases hq : u.getD i 0 < (of.length : Int)
    ·exact ⟨r, head r hq hr⟩
    ·refine ⟨([], s, true), Ev.step (fun k => by rw [q_reader_picked.l0]) ?_⟩
     rw [rdD]
     exact ev_pos (by omega) (ev_pos (by omega) (ev_pos (by omega) (ev_pos (by omega) (ev_some _))))
   ·intro hall
    have := head _ (hall _ hm) (h2 hall)
    rw [getD_drop_head (d := 0) hlt, List.map_cons]
    rw [List.append_assoc] at this
    simpa using this
  ·have hf : Ev (fun k => q_reader_picked.l0 k of (pre ++ List.replicate (u.length - i) 0) u (u.length : Int) (i : Int) s bad) (pre ++ (u.drop i).map (rd of), s, bad) := by
    refine Ev.step (fun k => by rw [q_reader_picked.l0]) (ev_neg (by omega) ?_)
    rw [List.drop_eq_nil_of_le (by omega), show u.length - i = 0 by omega]
    exact ev_some _
   exact ⟨⟨_, hf⟩, fun _ => hf⟩
theorem p_ev {of : List Int} (s : List Int) (bad : Bool) {u : List Int} (hu : u.length ≤ 2000) (h0 : ∀ q ∈ u, 0 ≤ q) :
 (∃ r : Ans, Ev (fun k => q_reader_picked.f k s bad u of) r) ∧ ((∀ q ∈ u, q < (of.length : Int)) → Ev (fun k => q_reader_picked.f k s bad u of) (u.map (rd of), s, bad)) := by
 obtain ⟨⟨r, hr⟩, h2⟩ := p_l0 (of := of) s bad u hu h0 _ 0 [] rfl (by omega) (Nat.le_refl _)
 have head : ∀ r : Ans, Ev (fun k => q_reader_picked.l0 k of (List.replicate u.length 0) u (u.length : Int) 0 s bad) r → Ev (fun k => q_reader_picked.f k s bad u of) r := by
  intro r h
  unfold q_reader_picked.f
  rw [Int.toNat_natCast]
  exact ev_pos (by omega) (ev_pos (by omega) h)
 exact ⟨⟨r, head r (by simpa using hr)⟩, fun h => head _ (by simpa using h2 h)⟩
theorem qr_end {many : Int} {out : List Int} (s : List Int) (bad : Bool) (h : ¬ (out.length : Int) < many) : Ev (fun k => q_reader_runs.l0 k many out s bad) (out, s, bad) :=
 Ev.step (fun k => by rw [q_reader_runs.l0]) (ev_neg h (Ev.step (fun k => by rw [q_reader_runs.j1]) (ev_neg (by simp) (ev_some _))))
theorem qr_bad (many : Int) (out : List Int) (s : List Int) : Ev (fun k => q_reader_runs.l0 k many out s true) (out, s, true) := by
 by_cases h : (out.length : Int) < many
 ·exact Ev.step (fun k => by rw [q_reader_runs.l0]) (ev_pos h (Ev.step (fun k => by rw [q_reader_runs.j1]) (ev_neg (by simp) (ev_some _))))
 ·exact qr_end s true h
theorem qr_l1 (many : Int) (v : Int) (s : List Int) (bad : Bool) (r : Ans) (n : Nat) (d : Nat) : ∀ (j : Nat) (out : List Int), j + d = n → n ≤ 2000 → out.length + d ≤ 4000 → Ev (fun k => q_reader_runs.l0 k many (out ++ List.replicate d v) s bad) r → Ev (fun k => q_reader_runs.l1 k many out v (n : Int) (j : Int) s bad) r := by
 induction d with
 | zero =>
  intro j out hj hn ho h
  refine Ev.step (fun k => by rw [q_reader_runs.l1]) (ev_neg (by omega) ?_)
  simpa using h
 | succ d ih =>
  intro j out hj hn ho h
  refine Ev.step (fun k => by rw [q_reader_runs.l1]) (ev_pos (by omega) (ev_pos (by omega) ?_))
  rw [w64 (by omega) (by omega)]
  refine ih (j + 1) (out ++ [v]) (by omega) hn (by simp; omega) ?_
  simpa [List.replicate_succ] using h
/-- One run more. -/
theorem qr_one {many : Nat} {out : List Int} {s : List Int} (hs : Byt s) (h : out.length < many) (hm : many ≤ 2000) {r : Ans} {v : Int} {n : Int} {s2 : List Int} {bad : Bool}
 (hv : v = (qnt s false).1) (hc : qct (qnt s false).2.1 (qnt s false).2.2 = (n, s2, bad))
 (hr : (n < 1 ∨ n > (many : Int) - out.length) ∧ r = ([], s2, true) ∨ 0 < n ∧ n ≤ (many : Int) - out.length ∧ Ev (fun k => q_reader_runs.l0 k (many : Int) (out ++ List.replicate n.toNat v) s2 bad) r) :
 Ev (fun k => q_reader_runs.l0 k (many : Int) out s false) r := by
 refine Ev.step (fun k => by rw [q_reader_runs.l0]) (ev_pos (by omega) ?_)
 refine Ev.step (fun k => by rw [q_reader_runs.j1]) (ev_pos (show (!false) = true from rfl) (Ev.bind (qnt_ev false hs) ?_))
 refine Ev.bind (qct_ev _ (qnt_byt hs)) ?_
 rw [hc, ← hv]
 dsimp only
 rw [w64 (n := (many : Int) - out.length) (by omega) (by omega)]
 have stop : Ev (fun k => q_reader_runs.j2 k (many : Int) out v n true s2 bad) ([], s2, true) :=
  Ev.step (fun k => by rw [q_reader_runs.j2]) (ev_pos rfl (ev_some _))
 rcases hr with ⟨h0, rfl⟩ | ⟨h1, h2, h3⟩
 ·by_cases hn : n < 1
  ·exact ev_pos hn stop
  ·refine ev_neg hn ?_
   rw [show decide (n > (many : Int) - out.length) = true by simp; omega]
   exact stop
 ·obtain ⟨q, rfl⟩ := Int.eq_ofNat_of_zero_le (show 0 ≤ n by omega)
  rw [Int.toNat_natCast] at h3
  refine ev_neg (by omega) ?_
  rw [show decide ((q : Int) > (many : Int) - out.length) = false by simp; omega]
  refine Ev.step (fun k => by rw [q_reader_runs.j2]) (ev_neg (by simp) ?_)
  exact qr_l1 _ v s2 bad r q q 0 out (by omega) (by omega) (by omega) h3
theorem qr_total (many : Nat) (hm : many ≤ 2000) (n : Nat) : ∀ (out s : List Int) (bad : Bool), out.length ≤ many → many - out.length ≤ n → Byt s →
 ∃ r : Ans, Ev (fun k => q_reader_runs.l0 k (many : Int) out s bad) r := by
 induction n with
 | zero => intro out s bad ho hn hs; exact ⟨_, qr_end s bad (by omega)⟩
 | succ n ih =>
  intro out s bad ho hn hs
  cases bad with
  | true => exact ⟨_, qr_bad _ _ _⟩
  | false =>
   by_cases h : out.length < many
   ·obtain ⟨c, s2, bad, hc⟩ : ∃ c s2 bad, qct (qnt s false).2.1 (qnt s false).2.2 = (c, s2, bad) := ⟨_, _, _, rfl⟩
    have hby : Byt s2 := by have := qct_byt (bad := (qnt s false).2.2) (qnt_byt (bad := false) hs); rw [hc] at this; exact this
    by_cases hx : c < 1 ∨ c > (many : Int) - out.length
    ·exact ⟨_, qr_one hs h hm rfl hc (Or.inl ⟨hx, rfl⟩)⟩
    ·have hx' := not_or.1 hx
     obtain ⟨r, hr⟩ := ih (out ++ List.replicate c.toNat (qnt s false).1) s2 bad (by simp; omega) (by simp; omega) hby
     exact ⟨r, qr_one hs h hm rfl hc (Or.inr ⟨by omega, by omega, hr⟩)⟩
   ·exact ⟨_, qr_end s false (by omega)⟩
theorem qr_rle (many : Nat) (hm : many ≤ 2000) (n : Nat) : ∀ (l out rest : List Int), l.length ≤ n → out.length + l.length = many → (∀ v ∈ l, -1000000000000000 ≤ v ∧ v ≤ 1000000000000000) → Byt (rle l ++ rest) →
 Ev (fun k => q_reader_runs.l0 k (many : Int) out (rle l ++ rest) false) (out ++ l, rest, false) := by
 induction n with
 | zero =>
  intro l out rest hl ho hv hb
  have : l = [] := List.eq_nil_of_length_eq_zero (by omega)
  subst this
  rw [rle_nil, List.nil_append, List.append_nil]
  exact qr_end rest false (by simp at ho; omega)
 | succ n ih =>
  intro l out rest hl ho hv hb
  cases l with
  | nil =>
   rw [rle_nil, List.nil_append, List.append_nil]
   exact qr_end rest false (by simp at ho; omega)
  | cons b t =>
   have hm1 := hv b (List.mem_cons_self ..)
   have hle := hdI_le b t
   have ho' : out.length + (t.length + 1) = many := ho
   have hl' : t.length + 1 ≤ n + 1 := hl
   have e : rle (b :: t) ++ rest = num b ++ (cnt (hdI b t + 1) ++ (rle (t.drop (hdI b t)) ++ rest)) := by rw [rle_cons]; simp only [List.append_assoc]
   have hb2 : Byt (rle (t.drop (hdI b t)) ++ rest) := fun x hx => hb x (by rw [e]; exact List.mem_append_right _ (List.mem_append_right _ hx))
   have hnt := qnt_num (cnt (hdI b t + 1) ++ (rle (t.drop (hdI b t)) ++ rest)) (show -4000000000000000 ≤ b by omega) (show b ≤ 4000000000000000 by omega)
   rw [← e] at hnt
   have hct : qct (qnt (rle (b :: t) ++ rest) false).2.1 (qnt (rle (b :: t) ++ rest) false).2.2 = (((hdI b t + 1 : Nat) : Int), rle (t.drop (hdI b t)) ++ rest, false) := by
    rw [hnt]
    exact qct_cnt _ (by omega)
   refine qr_one hb (by omega) hm (v := b) (by rw [hnt]) hct (Or.inr ⟨by omega, by omega, ?_⟩)
   rw [Int.toNat_natCast]
   have := ih (t.drop (hdI b t)) (out ++ List.replicate (hdI b t + 1) b) rest (by simp; omega) (by simp; omega) (fun v h => hv v (List.mem_cons_of_mem _ (List.mem_of_mem_drop h))) hb2
   rw [List.append_assoc, List.replicate_succ, List.cons_append, hdI_rep] at this
   rw [List.replicate_succ]
   exact this
theorem q_j2bad (many n : Int) (l s : List Int) : Ev (fun k => q_reader_dict.j2 k many n l s true) ([], s, true) :=
 Ev.step (fun k => by rw [q_reader_dict.j2]) (ev_pos rfl (ev_some _))
theorem q_j2 {many n : Nat} (hm : many ≤ 2000) (h1 : 1 ≤ n) (hn : n ≤ 2000) {l s : List Int} (hs : Byt s) (hl : l.length = n) :
 (∃ r : Ans, Ev (fun k => q_reader_dict.j2 k (many : Int) (n : Int) l s false) r) ∧
 (s.length = (many * Lib.bitLen (n - 1) + 7) / 8 → (∀ q ∈ ups s many (Lib.bitLen (n - 1)), q < (n : Int)) → Ev (fun k => q_reader_dict.j2 k (many : Int) (n : Int) l s false) ((ups s many (Lib.bitLen (n - 1))).map (rd l), [], false)) := by
 have hw := bitLen11 hn
 have e1 : wrap64 ((n : Int) - 1) = (n : Int) - 1 := w64 (by omega) (by omega)
 have e2 : ((n : Int) - 1).toNat = n - 1 := by omega
 have hpk := q_ev hs false (m := many) (w := Lib.bitLen (n - 1)) hm (by omega)
 have head : ∀ a r : Ans, Ev (fun k => q_reader_unpacked.f k s false (many : Int) ((Lib.bitLen (n - 1) : Nat) : Int)) a → Ev (fun k => q_reader_picked.f k a.2.1 a.2.2 a.1 l) r → Ev (fun k => q_reader_dict.j2 k (many : Int) (n : Int) l s false) r := by
  intro a r ha h
  refine Ev.step (fun k => by rw [q_reader_dict.j2]) (ev_neg (by simp) ?_)
  rw [e1, rwidth_ev (by omega) (by omega), e2]
  exact Ev.bind (ev_some _) (Ev.bind ha (Ev.bind h (ev_some _)))
 by_cases hlen : Lib.bitLen (n - 1) ≤ 60 ∧ (many * Lib.bitLen (n - 1) + 7) / 8 ≤ s.length
 ·rw [if_pos hlen] at hpk
  have hul := ups_len s many (Lib.bitLen (n - 1))
  obtain ⟨⟨r, hr⟩, h2⟩ := p_ev (of := l) (s.drop ((many * Lib.bitLen (n - 1) + 7) / 8)) false (u := ups s many (Lib.bitLen (n - 1))) (by omega) (fun q hq => (ups_range q hq).1)
  refine ⟨⟨r, head _ r hpk hr⟩, fun he hall => ?_⟩
  have := head _ _ hpk (h2 (by rw [hl]; exact hall))
  rwa [List.drop_eq_nil_of_le (by omega)] at this
 ·rw [if_neg hlen] at hpk
  obtain ⟨⟨r, hr⟩, _⟩ := p_ev (of := l) s true (u := []) (by simp) (by simp)
  exact ⟨⟨r, head _ r hpk hr⟩, fun he => absurd ⟨by omega, by omega⟩ hlen⟩
theorem qd_l0bad (many n : Int) (l s : List Int) : Ev (fun k => q_reader_dict.l0 k many n l s true) ([], s, true) := by
 refine Ev.step (fun k => by rw [q_reader_dict.l0]) ?_
 by_cases h : (l.length : Int) < n
 ·exact ev_pos h (ev_pos rfl (q_j2bad _ _ _ _))
 ·exact ev_neg h (q_j2bad _ _ _ _)
theorem qd_one {many n : Int} {l s : List Int} (hs : Byt s) (h : (l.length : Int) < n) (h1 : 0 < l.length) (hn : n ≤ 2000) {r : Ans} (hr : Ev (fun k => q_reader_dict.l0 k many n (l ++ [wrap64 (l.getD (l.length - 1) 0 + (qct s false).1)]) (qct s false).2.1 (qct s false).2.2) r) :
 Ev (fun k => q_reader_dict.l0 k many n l s false) r := by
 have e1 : wrap64 ((l.length : Int) - 1) = ((l.length - 1 : Nat) : Int) := by rw [w64 (by omega) (by omega)]; omega
 refine Ev.step (fun k => by rw [q_reader_dict.l0]) (ev_pos h (ev_neg (by simp) ?_))
 rw [e1, rdD]
 exact ev_pos (by omega) (ev_pos (by omega) (Ev.bind (qct_ev false hs) (ev_pos (by omega) hr)))
theorem qd_total {many n : Nat} (hm : many ≤ 2000) (hn : n ≤ 2000) (d : Nat) : ∀ (l s : List Int) (bad : Bool), 0 < l.length → l.length + d = n → Byt s → ∃ r : Ans, Ev (fun k => q_reader_dict.l0 k (many : Int) (n : Int) l s bad) r := by
 induction d with
 | zero =>
  intro l s bad h0 hl hs
  cases bad with
  | true => exact ⟨_, qd_l0bad _ _ _ _⟩
  | false =>
   obtain ⟨r, hr⟩ := (q_j2 hm (n := n) (by omega) hn hs (l := l) (by omega)).1
   exact ⟨r, Ev.step (fun k => by rw [q_reader_dict.l0]) (ev_neg (by omega) hr)⟩
 | succ d ih =>
  intro l s bad h0 hl hs
  cases bad with
  | true => exact ⟨_, qd_l0bad _ _ _ _⟩
  | false =>
   obtain ⟨r, hr⟩ := ih (l ++ [wrap64 (l.getD (l.length - 1) 0 + (qct s false).1)]) (qct s false).2.1 (qct s false).2.2 (by simp) (by simp; omega) (qct_byt hs)
   exact ⟨r, qd_one hs (by omega) h0 (by omega) hr⟩
theorem qd_dif {many n : Nat} (hn : n ≤ 2000) (d : Nat) (rest : List Int) (r : Ans) : ∀ (t pre : List Int) (p : Int), pre.length + 1 + t.length = n → t.length ≤ d → (p :: t).Pairwise (· < ·) → (∀ v ∈ p :: t, -1000000000000000 ≤ v ∧ v ≤ 1000000000000000) → Byt (dif p t ++ rest) →
 Ev (fun k => q_reader_dict.j2 k (many : Int) (n : Int) (pre ++ p :: t) rest false) r →
 Ev (fun k => q_reader_dict.l0 k (many : Int) (n : Int) (pre ++ [p]) (dif p t ++ rest) false) r := by
 induction d with
 | zero =>
  intro t pre p hl ht hs hv hb h
  have : t = [] := List.eq_nil_of_length_eq_zero (by omega)
  subst this
  refine Ev.step (fun k => by rw [q_reader_dict.l0]) (ev_neg (by simp; simp at hl; omega) ?_)
  simpa [dif] using h
 | succ d ih =>
  intro t pre p hl ht hs hv hb h
  cases t with
  | nil =>
   refine Ev.step (fun k => by rw [q_reader_dict.l0]) (ev_neg (by simp; simp at hl; omega) ?_)
   simpa [dif] using h
  | cons b t =>
   have hl' : pre.length + 1 + (t.length + 1) = n := hl
   have ht' : t.length + 1 ≤ d + 1 := ht
   have hp := hv p (List.mem_cons_self ..)
   have hb1 := hv b (by simp)
   have hlt : p < b := by
    have := (List.pairwise_cons.1 hs).1 b (List.mem_cons_self ..)
    exact this
   have e : dif p (b :: t) ++ rest = cnt (b - p).toNat ++ (dif b t ++ rest) := by rw [dif, List.append_assoc]
   have hct := qct_cnt (n := (b - p).toNat) (dif b t ++ rest) (by omega)
   rw [← e] at hct
   refine qd_one hb (by simp; omega) (by simp) (by omega) ?_
   have hlast : (pre ++ [p]).getD ((pre ++ [p]).length - 1) 0 = p := by simp [List.getD]
   rw [hct, hlast]
   dsimp only
   rw [show wrap64 (p + ((b - p).toNat : Int)) = b by rw [w64 (by omega) (by omega)]; omega]
   refine ih t (pre ++ [p]) b (by simp; omega) (by omega) (List.pairwise_cons.1 hs).2 (fun v hv' => hv v (List.mem_cons_of_mem _ hv')) (fun x hx => hb x (by rw [e]; exact List.mem_append_right _ hx)) ?_
   simpa using h
theorem qdict_total {many : Nat} (hm : many ≤ 2000) {s : List Int} (hs : Byt s) (bad : Bool) : ∃ r : Ans, Ev (fun k => q_reader_dict.f k s bad (many : Int)) r := by
 have hv := qct_val s bad
 have stop : Ev (fun k => q_reader_dict.j0 k (many : Int) (qct s bad).1 true (qct s bad).2.1 (qct s bad).2.2) ([], (qct s bad).2.1, true) :=
  Ev.step (fun k => by rw [q_reader_dict.j0]) (ev_pos rfl (ev_some _))
 have head : ∀ r, Ev (fun k => if (qct s bad).2.2 = true then (q_reader_dict.j0 k (many : Int) (qct s bad).1 true (qct s bad).2.1 (qct s bad).2.2) else (if (qct s bad).1 < 1 then (q_reader_dict.j0 k (many : Int) (qct s bad).1 true (qct s bad).2.1 (qct s bad).2.2) else (q_reader_dict.j0 k (many : Int) (qct s bad).1 (decide ((qct s bad).1 > (many : Int))) (qct s bad).2.1 (qct s bad).2.2))) r → Ev (fun k => q_reader_dict.f k s bad (many : Int)) r := by
  intro r h
  unfold q_reader_dict.f
  exact Ev.bind (qct_ev bad hs) h
 by_cases hb : (qct s bad).2.2 = true
 ·exact ⟨_, head _ (ev_pos hb stop)⟩
 ·by_cases h1 : (qct s bad).1 < 1
  ·exact ⟨_, head _ (ev_neg hb (ev_pos h1 stop))⟩
  ·by_cases h2 : (qct s bad).1 > (many : Int)
   ·rw [show decide ((qct s bad).1 > (many : Int)) = true by simpa using h2] at head
    exact ⟨_, head _ (ev_neg hb (ev_neg h1 stop))⟩
   ·rw [show decide ((qct s bad).1 > (many : Int)) = false by simpa using h2] at head
    obtain ⟨n, hn⟩ := Int.eq_ofNat_of_zero_le hv.1
    obtain ⟨r, hr⟩ := qd_total hm (n := n) (by omega) (n - 1) [(qnt (qct s bad).2.1 (qct s bad).2.2).1] (qnt (qct s bad).2.1 (qct s bad).2.2).2.1 (qnt (qct s bad).2.1 (qct s bad).2.2).2.2 (by simp) (by simp; omega) (qnt_byt (qct_byt hs))
    refine ⟨r, head _ (ev_neg hb (ev_neg h1 (Ev.step (fun k => by rw [q_reader_dict.j0]) (ev_neg (by simp) (Ev.bind (qnt_ev _ (qct_byt hs)) ?_)))))⟩
    rw [hn]
    exact hr
theorem qdict_round {l : List Int} (h : Okv l) (hne : l ≠ []) (hb : Byt (dict l)) : Ev (fun k => q_reader_dict.f k (dict l) false (l.length : Int)) (l, [], false) := by
 have hn := h.1
 have hs := dst_sorted l
 have hdl := dst_len l
 have hdp := dst_ne hne
 have hdv : ∀ v ∈ dst l, -1000000000000000 ≤ v ∧ v ≤ 1000000000000000 := fun v hv => h.2 v ((hs.2 v).1 hv)
 have hcons : dst l = (dst l).getD 0 0 :: (dst l).drop 1 := by
  have := getD_drop_head (d := 0) hdp
  rwa [List.drop_zero] at this
 have h0v := hdv _ (mem_getD hdp)
 have e : dict l = cnt (dst l).length ++ (num ((dst l).getD 0 0) ++ (dif ((dst l).getD 0 0) ((dst l).drop 1) ++ pb (allbits (pls l) (Lib.bitLen ((dst l).length - 1))))) := by unfold dict; simp only [List.append_assoc]
 have hlt := qct_cnt (n := (dst l).length) (num ((dst l).getD 0 0) ++ (dif ((dst l).getD 0 0) ((dst l).drop 1) ++ pb (allbits (pls l) (Lib.bitLen ((dst l).length - 1))))) (by omega)
 rw [← e] at hlt
 have hnt := qnt_num (dif ((dst l).getD 0 0) ((dst l).drop 1) ++ pb (allbits (pls l) (Lib.bitLen ((dst l).length - 1)))) (v := (dst l).getD 0 0) (by omega) (by omega)
 have hb1 : Byt (num ((dst l).getD 0 0) ++ (dif ((dst l).getD 0 0) ((dst l).drop 1) ++ pb (allbits (pls l) (Lib.bitLen ((dst l).length - 1))))) := fun x hx => hb x (by rw [e]; exact List.mem_append_right _ hx)
 have hb2 : Byt (dif ((dst l).getD 0 0) ((dst l).drop 1) ++ pb (allbits (pls l) (Lib.bitLen ((dst l).length - 1)))) := fun x hx => hb1 x (List.mem_append_right _ hx)
 unfold q_reader_dict.f
 refine Ev.bind (qct_ev false hb) ?_
 rw [hlt]
 refine ev_neg (by simp) (ev_neg (show ¬ ((dst l).length : Int) < 1 by omega) ?_)
 dsimp only
 rw [show decide (((dst l).length : Int) > (l.length : Int)) = false by simp; omega]
 refine Ev.step (fun k => by rw [q_reader_dict.j0]) (ev_neg (by simp) (Ev.bind (qnt_ev false hb1) ?_))
 rw [hnt]
 dsimp only
 have hbl := bitLen_lt ((dst l).length - 1) (by omega)
 have hplr : ∀ v ∈ pls l, 0 ≤ v ∧ v < 2 ^ Lib.bitLen ((dst l).length - 1) := by
  intro v hv
  have h1 := pls_range v hv
  have h2 : (((dst l).length - 1 : Nat) : Int) < (2 : Int) ^ Lib.bitLen ((dst l).length - 1) := by exact_mod_cast hbl
  exact ⟨h1.1, by omega⟩
 have hups := ups_pb hplr
 rw [pls_len] at hups
 refine qd_dif (many := l.length) (n := (dst l).length) (by omega) _ _ _ ((dst l).drop 1) [] ((dst l).getD 0 0) (by simp; omega) (Nat.le_refl _) (by rw [← hcons]; exact hs.1) (by rw [← hcons]; exact hdv) hb2 ?_
 rw [List.nil_append, ← hcons]
 have := (q_j2 (many := l.length) hn (n := (dst l).length) (by omega) (by omega) (l := dst l) (s := pb (allbits (pls l) (Lib.bitLen ((dst l).length - 1)))) (fun x hx => hb2 x (List.mem_append_right _ hx)) rfl).2 (by rw [pb_len, allbits_len, pls_len]) ?_
 ·rw [hups] at this
  have hmap : (pls l).map (rd (dst l)) = l := by
   unfold pls
   rw [List.map_map]
   have : ∀ v ∈ l, (rd (dst l) ∘ fun v => (pl (dst l) v : Int)) v = v := by
    intro v hv
    simp only [Function.comp]
    rw [rdD, pl_get ((hs.2 v).2 hv)]
   rw [List.map_congr_left this]
   simp
  rw [hmap] at this
  exact this
 ·rw [hups]
  exact fun q hq => (pls_range q hq).2
theorem q0_total {many : Nat} (hm : many ≤ 2000) (n : Nat) : ∀ (out s : List Int) (bad : Bool), out.length ≤ many → many - out.length ≤ n → Byt s → ∃ r : Ans, Ev (fun k => q_reader_values.l0 k (many : Int) out s bad) r := by
 induction n with
 | zero => intro out s bad ho hn hs; exact ⟨_, Ev.step (fun k => by rw [q_reader_values.l0]) (ev_neg (by omega) (ev_some _))⟩
 | succ n ih =>
  intro out s bad ho hn hs
  by_cases h : out.length < many
  ·cases bad with
   | true => exact ⟨_, Ev.step (fun k => by rw [q_reader_values.l0]) (ev_pos (by omega) (ev_pos rfl (ev_some _)))⟩
   | false =>
    obtain ⟨r, hr⟩ := ih (out ++ [(qnt s false).1]) (qnt s false).2.1 (qnt s false).2.2 (by simp; omega) (by simp; omega) (qnt_byt hs)
    exact ⟨r, Ev.step (fun k => by rw [q_reader_values.l0]) (ev_pos (by omega) (ev_neg (by simp) (Ev.bind (qnt_ev false hs) (ev_pos (show out.length < 17592186044416 by omega) hr))))⟩
  ·exact ⟨_, Ev.step (fun k => by rw [q_reader_values.l0]) (ev_neg (by omega) (ev_some _))⟩
theorem q2_total {many : Nat} (hm : many ≤ 2000) (n : Nat) : ∀ (out s : List Int) (p : Int) (bad : Bool), out.length ≤ many → many - out.length ≤ n → Byt s → ∃ r : Ans, Ev (fun k => q_reader_values.l2 k (many : Int) out p s bad) r := by
 induction n with
 | zero => intro out s p bad ho hn hs; exact ⟨_, Ev.step (fun k => by rw [q_reader_values.l2]) (ev_neg (by omega) (ev_some _))⟩
 | succ n ih =>
  intro out s p bad ho hn hs
  by_cases h : out.length < many
  ·cases bad with
   | true => exact ⟨_, Ev.step (fun k => by rw [q_reader_values.l2]) (ev_pos (by omega) (ev_pos rfl (ev_some _)))⟩
   | false =>
    obtain ⟨r, hr⟩ := ih (out ++ [wrap64 (p + (qnt s false).1)]) (qnt s false).2.1 (wrap64 (p + (qnt s false).1)) (qnt s false).2.2 (by simp; omega) (by simp; omega) (qnt_byt hs)
    exact ⟨r, Ev.step (fun k => by rw [q_reader_values.l2]) (ev_pos (by omega) (ev_neg (by simp) (Ev.bind (qnt_ev false hs) (ev_pos (show out.length < 17592186044416 by omega) hr))))⟩
  ·exact ⟨_, Ev.step (fun k => by rw [q_reader_values.l2]) (ev_neg (by omega) (ev_some _))⟩
theorem q0_nums (rest : List Int) : ∀ (l out : List Int), out.length + l.length ≤ 2000 → (∀ v ∈ l, -1000000000000000 ≤ v ∧ v ≤ 1000000000000000) → Byt (nums l ++ rest) →
 Ev (fun k => q_reader_values.l0 k ((out.length + l.length : Nat) : Int) out (nums l ++ rest) false) (out ++ l, rest, false)
 | [], out, hl, hv, hb => by
  rw [show nums [] = [] from rfl, List.nil_append, List.append_nil]
  exact Ev.step (fun k => by rw [q_reader_values.l0]) (ev_neg (by simp) (ev_some _))
 | v :: l, out, hl, hv, hb => by
  have hm := hv v (List.mem_cons_self ..)
  have hl' : out.length + (l.length + 1) ≤ 2000 := hl
  have e : nums (v :: l) ++ rest = num v ++ (nums l ++ rest) := by simp [nums, List.append_assoc]
  have hb2 : Byt (nums l ++ rest) := fun x hx => hb x (by rw [e]; exact List.mem_append_right _ hx)
  have hnt := qnt_num (nums l ++ rest) (show -4000000000000000 ≤ v by omega) (show v ≤ 4000000000000000 by omega)
  rw [← e] at hnt
  have ih := q0_nums rest l (out ++ [v]) (by simp; omega) (fun x hx => hv x (List.mem_cons_of_mem _ hx)) hb2
  rw [List.length_append, List.length_singleton, show out.length + 1 + l.length = out.length + (l.length + 1) by omega, List.append_assoc] at ih
  refine Ev.step (fun k => by rw [q_reader_values.l0]) (ev_pos (by simp; omega) (ev_neg (by simp) (Ev.bind (qnt_ev false hb) (ev_pos (show out.length < 17592186044416 by omega) ?_))))
  rw [hnt]
  exact ih
theorem q2_dlt (rest : List Int) : ∀ (l out : List Int) (p : Int), out.length + l.length ≤ 2000 → (-1000000000000000 ≤ p ∧ p ≤ 1000000000000000) → (∀ v ∈ l, -1000000000000000 ≤ v ∧ v ≤ 1000000000000000) → Byt (dlt p l ++ rest) →
 Ev (fun k => q_reader_values.l2 k ((out.length + l.length : Nat) : Int) out p (dlt p l ++ rest) false) (out ++ l, rest, false)
 | [], out, p, hl, hp, hv, hb => by
  rw [show dlt p [] = [] from rfl, List.nil_append, List.append_nil]
  exact Ev.step (fun k => by rw [q_reader_values.l2]) (ev_neg (by simp) (ev_some _))
 | v :: l, out, p, hl, hp, hv, hb => by
  have hm := hv v (List.mem_cons_self ..)
  have hl' : out.length + (l.length + 1) ≤ 2000 := hl
  have e : dlt p (v :: l) ++ rest = num (v - p) ++ (dlt v l ++ rest) := by simp [dlt, List.append_assoc]
  have hb2 : Byt (dlt v l ++ rest) := fun x hx => hb x (by rw [e]; exact List.mem_append_right _ hx)
  have hnt := qnt_num (dlt v l ++ rest) (show -4000000000000000 ≤ v - p by omega) (show v - p ≤ 4000000000000000 by omega)
  rw [← e] at hnt
  have ih := q2_dlt rest l (out ++ [v]) v (by simp; omega) hm (fun x hx => hv x (List.mem_cons_of_mem _ hx)) hb2
  rw [List.length_append, List.length_singleton, show out.length + 1 + l.length = out.length + (l.length + 1) by omega, List.append_assoc] at ih
  refine Ev.step (fun k => by rw [q_reader_values.l2]) (ev_pos (by simp; omega) (ev_neg (by simp) (Ev.bind (qnt_ev false hb) (ev_pos (show out.length < 17592186044416 by omega) ?_))))
  rw [hnt]
  dsimp only
  rw [show wrap64 (p + (v - p)) = v by rw [w64 (by omega) (by omega)]; omega]
  exact ih
theorem q1_ev (least : Int) (s : List Int) (bad : Bool) (u : List Int) (hu : u.length ≤ 2000) (d : Nat) : ∀ (i : Nat) (out : List Int), out.length ≤ 4000 - (u.length - i) → i ≤ u.length → u.length - i ≤ d →
 Ev (fun k => q_reader_values.l1 k out least u (u.length : Int) (i : Int) s bad) (out ++ (u.drop i).map (fun v => wrap64 (least + v)), s, bad) := by
 have fin : ∀ (i : Nat) (out : List Int), ¬ i < u.length → Ev (fun k => q_reader_values.l1 k out least u (u.length : Int) (i : Int) s bad) (out ++ (u.drop i).map (fun v => wrap64 (least + v)), s, bad) := by
  intro i out h
  refine Ev.step (fun k => by rw [q_reader_values.l1]) (ev_neg (by omega) ?_)
  rw [List.drop_eq_nil_of_le (by omega)]
  exact ev_eq (ev_some _) (by simp)
 induction d with
 | zero => intro i out ho hi hd; exact fin i out (by omega)
 | succ d ih =>
  intro i out ho hi hd
  by_cases hlt : i < u.length
  ·have := ih (i + 1) (out ++ [wrap64 (least + u.getD i 0)]) (by simp; omega) (by omega) (by omega)
   refine Ev.step (fun k => by rw [q_reader_values.l1]) ?_
   rw [rdD, w64 (n := (i : Int) + 1) (by omega) (by omega)]
   refine ev_pos (by omega) (ev_pos (by omega) (ev_pos (by omega) (ev_pos (by omega) (ev_eq this ?_))))
   rw [getD_drop_head (d := 0) hlt, List.map_cons, List.append_assoc]
   rfl
  ·exact fin i out hlt
theorem qvalues_total (c : Int) {many : Nat} (hm : many ≤ 2000) {s : List Int} (hs : Byt s) (bad : Bool) : ∃ r : Ans, Ev (fun k => q_reader_values.f k s bad c (many : Int)) r := by
 unfold q_reader_values.f
 by_cases h1 : c = 1
 ·obtain ⟨r, hr⟩ := q0_total hm many [] s bad (by simp) (by simp) hs
  exact ⟨r, ev_pos h1 hr⟩
 by_cases h2 : c = 2
 ·obtain ⟨r, hr⟩ := qr_total many hm many [] s bad (by simp) (by simp) hs
  exact ⟨_, ev_neg h1 (ev_pos h2 (Ev.bind (show Ev (fun k => q_reader_runs.f k s bad (many : Int)) r from hr) (ev_some _)))⟩
 by_cases h3 : c = 3
 ·obtain ⟨r, hr⟩ := qdict_total hm hs bad
  exact ⟨_, ev_neg h1 (ev_neg h2 (ev_pos h3 (Ev.bind hr (ev_some _))))⟩
 by_cases h4 : c = 4
 ·have hb := qnt_byt (bad := bad) hs
  have hh := head0 hb
  obtain ⟨w, hw⟩ := Int.eq_ofNat_of_zero_le hh.1
  have hpk := q_ev hb.tail ((qnt s bad).2.2 || (qnt s bad).2.1.isEmpty) (m := many) (w := w) hm (by omega)
  obtain ⟨u, hu⟩ : ∃ u : Ans, u = (if w ≤ 60 ∧ (many * w + 7) / 8 ≤ (qnt s bad).2.1.tail.length then (ups (qnt s bad).2.1.tail many w, (qnt s bad).2.1.tail.drop ((many * w + 7) / 8), ((qnt s bad).2.2 || (qnt s bad).2.1.isEmpty)) else ([], (qnt s bad).2.1.tail, true)) := ⟨_, rfl⟩
  rw [← hu] at hpk
  have hul : u.1.length ≤ 2000 := by
   rw [hu]
   split
   ·rw [ups_len]; exact hm
   ·simp
  have h := q1_ev (qnt s bad).1 u.2.1 u.2.2 u.1 hul _ 0 [] (by simp <;> omega) (by omega) (Nat.le_refl _)
  refine ⟨([] ++ (u.1.drop 0).map (fun v => wrap64 ((qnt s bad).1 + v)), u.2.1, u.2.2), ev_neg h1 (ev_neg h2 (ev_neg h3 (ev_pos h4 (Ev.bind (qnt_ev bad hs) ?_))))⟩
  rw [rbyteB _ _ hb]
  refine Ev.bind (ev_some _) ?_
  dsimp only
  rw [hw]
  exact Ev.bind hpk h
 by_cases h5 : c = 5
 ·obtain ⟨r, hr⟩ := q2_total hm many [] s 0 bad (by simp) (by simp) hs
  exact ⟨r, ev_neg h1 (ev_neg h2 (ev_neg h3 (ev_neg h4 (ev_pos h5 hr))))⟩
 exact ⟨_, ev_neg h1 (ev_neg h2 (ev_neg h3 (ev_neg h4 (ev_neg h5 (ev_some _)))))⟩
theorem qvalues_round {c : Nat} (hc : 1 ≤ c ∧ c ≤ 5) {l : List Int} (h : Okv l) (hne : l ≠ []) (hb : Byt (body c l)) : Ev (fun k => q_reader_values.f k (body c l) false (c : Int) (l.length : Int)) (l, [], false) := by
 have hn := h.1
 unfold q_reader_values.f
 by_cases h1 : c = 1
 ·subst h1
  have e : body 1 l = nums l := by simp [body]
  rw [e] at hb ⊢
  have hv := q0_nums [] l [] (by simpa using hn) h.2 (by simpa using hb)
  rw [show (([] : List Int).length + l.length) = l.length by simp, List.append_nil, List.nil_append] at hv
  exact ev_pos rfl hv
 refine ev_neg (by omega) ?_
 by_cases h2 : c = 2
 ·subst h2
  have e : body 2 l = rle l := by simp [body]
  rw [e] at hb ⊢
  have hv := qr_rle l.length hn _ l [] [] (Nat.le_refl _) (by simp) h.2 (by simpa using hb)
  rw [List.append_nil, List.nil_append] at hv
  exact ev_pos rfl (Ev.bind (show Ev (fun k => q_reader_runs.f k (rle l) false (l.length : Int)) (l, [], false) from hv) (ev_some _))
 refine ev_neg (by omega) ?_
 by_cases h3 : c = 3
 ·subst h3
  have e : body 3 l = dict l := by simp [body]
  rw [e] at hb ⊢
  exact ev_pos rfl (Ev.bind (qdict_round h hne hb) (ev_some _))
 refine ev_neg (by omega) ?_
 by_cases h4 : c = 4
 ·subst h4
  have e : body 4 l = num (Lib.minOf l) ++ ((fw l : Int) :: pb (allbits (fs l) (fw l))) := by simp [body, frame]
  rw [e] at hb ⊢
  have hm := h.2 _ (minOf_le l hne).1
  have hx := h.2 _ (maxOf_ge l hne).1
  have hmx := (minOf_le l hne).2 _ (maxOf_ge l hne).1
  have hfw := fw_le h hne
  have hnt := qnt_num (((fw l : Int) :: pb (allbits (fs l) (fw l)))) (v := Lib.minOf l) (by omega) (by omega)
  have hb2 : Byt ((fw l : Int) :: pb (allbits (fs l) (fw l))) := fun x hx => hb x (List.mem_append_right _ hx)
  have hb3 : Byt (pb (allbits (fs l) (fw l))) := fun x hx => hb2 x (List.mem_cons_of_mem _ hx)
  have hfl : (fs l).length = l.length := by simp [fs]
  have hbl := bitLen_lt (Lib.maxOf l - Lib.minOf l).toNat (by omega)
  have hfr : ∀ v ∈ fs l, 0 ≤ v ∧ v < 2 ^ fw l := by
   intro v hv
   have h1 := fs_range h hne v hv
   have h2 : ((Lib.maxOf l - Lib.minOf l).toNat : Int) < (2 : Int) ^ fw l := by exact_mod_cast hbl
   exact ⟨h1.1, by omega⟩
  have hups := ups_pb hfr
  rw [hfl] at hups
  have hT : (pb (allbits (fs l) (fw l))).length = (l.length * fw l + 7) / 8 := by rw [pb_len, allbits_len, hfl]
  have hpk := q_ev hb3 false (m := l.length) (w := fw l) hn (by omega)
  rw [if_pos ⟨by omega, by omega⟩, hups, List.drop_eq_nil_of_le (by omega)] at hpk
  refine ev_pos rfl (Ev.bind (qnt_ev false hb) ?_)
  rw [hnt]
  dsimp only
  rw [rbyteB _ false hb2]
  refine Ev.bind (ev_some _) (Ev.bind hpk (ev_eq (q1_ev (Lib.minOf l) [] false (fs l) (by omega) _ 0 [] (by simp <;> omega) (by omega) (Nat.le_refl _)) ?_))
  have hmap : (fs l).map (fun v => wrap64 (Lib.minOf l + v)) = l := by
   unfold fs
   rw [List.map_map]
   have : ∀ v ∈ l, ((fun v => wrap64 (Lib.minOf l + v)) ∘ fun v => v - Lib.minOf l) v = v := by
    intro v hv
    have := h.2 v hv
    simp only [Function.comp]
    rw [w64 (by omega) (by omega)]
    omega
   rw [List.map_congr_left this]
   simp
  rw [List.nil_append, List.drop_zero, hmap]
 refine ev_neg (by omega) ?_
 have h5 : c = 5 := by omega
 subst h5
 have e : body 5 l = dlt 0 l := by simp [body]
 rw [e] at hb ⊢
 have hv := q2_dlt [] l [] 0 (by simpa using hn) (by omega) h.2 (by simpa using hb)
 rw [show (([] : List Int).length + l.length) = l.length by simp, List.append_nil, List.nil_append] at hv
 exact ev_pos rfl hv
/-- What Decode may answer of bytes that are not too many. -/
def DecIn (b : List Int) (r : List Int × Int) : Prop := r = ([], 3) ∨ ∃ c l, 1 ≤ c ∧ c ≤ 5 ∧ Okv l ∧ enc c l = b ∧ r = (l, 0)
theorem qj1_bad (b : List Int) (c : Int) (o s : List Int) : Ev (fun k => q_Decode.j1 k b c o s true) ([], 3) :=
 Ev.step (fun k => by rw [q_Decode.j1]) (ev_pos rfl (ev_some _))
theorem qj1_ok (b : List Int) (c : Int) (o s : List Int) : ∃ r, Ev (fun k => q_Decode.j1 k b c o s false) r ∧ DecIn b r := by
 have head : ∀ r, Ev (fun k => if (encAns c o).2 = 0 then ((s_Equalb.f k (encAns c o).1 b).bind fun t635 => (if t635 = true then (some (o, 0)) else (some (([] : List Int), 3)))) else (some (([] : List Int), 3))) r → Ev (fun k => q_Decode.j1 k b c o s false) r := by
  intro r h
  exact Ev.step (fun k => by rw [q_Decode.j1]) (ev_neg (by simp) (Ev.bind (rEncode_ev c o) h))
 have eo : encAns c o = if 1 ≤ c ∧ c ≤ 5 then (if chk o = 0 then (enc c.toNat o, 0) else ([], chk o)) else ([], 4) := rfl
 by_cases hc : 1 ≤ c ∧ c ≤ 5
 ·rw [if_pos hc] at eo
  by_cases h0 : chk o = 0
  ·rw [if_pos h0] at eo
   have ho := chk_ok.1 h0
   have hl := enc_len (c := c.toNat) ho
   rw [eo] at head
   have he := eqB_ev (x := enc c.toNat o) (y := b) (by omega)
   by_cases hb : enc c.toNat o = b
   ·exact ⟨(o, 0), head _ (ev_pos rfl (Ev.bind he (ev_pos (by simpa using hb) (ev_some _)))), Or.inr ⟨c.toNat, o, by omega, by omega, ho, hb, rfl⟩⟩
   ·exact ⟨([], 3), head _ (ev_pos rfl (Ev.bind he (ev_neg (by simpa using hb) (ev_some _)))), Or.inl rfl⟩
  ·rw [if_neg h0] at eo
   rw [eo] at head
   exact ⟨([], 3), head _ (ev_neg h0 (ev_some _)), Or.inl rfl⟩
 ·rw [if_neg hc] at eo
  rw [eo] at head
  exact ⟨([], 3), head _ (ev_neg (by simp) (ev_some _)), Or.inl rfl⟩
theorem qj1_any (b : List Int) (c : Int) (o s : List Int) (bad : Bool) : ∃ r, Ev (fun k => q_Decode.j1 k b c o s bad) r ∧ DecIn b r := by
 cases bad with
 | true => exact ⟨_, qj1_bad b c o s, Or.inl rfl⟩
 | false => exact qj1_ok b c o s
theorem rDecode_total {b : List Int} (hb : Byt b) (hl : ¬ b.length > 500000) : ∃ r, Ev (fun k => q_Decode.f k b) r ∧ DecIn b r := by
 have hv := qct_val b.tail (false || b.isEmpty)
 have stop : Ev (fun k => q_Decode.j0 k b (b.headD 0) (qct b.tail (false || b.isEmpty)).1 true (qct b.tail (false || b.isEmpty)).2.1 (qct b.tail (false || b.isEmpty)).2.2) ([], 3) :=
  Ev.step (fun k => by rw [q_Decode.j0]) (ev_pos rfl (ev_some _))
 have head : ∀ r, Ev (fun k => if (qct b.tail (false || b.isEmpty)).2.2 = true then (q_Decode.j0 k b (b.headD 0) (qct b.tail (false || b.isEmpty)).1 true (qct b.tail (false || b.isEmpty)).2.1 (qct b.tail (false || b.isEmpty)).2.2) else (q_Decode.j0 k b (b.headD 0) (qct b.tail (false || b.isEmpty)).1 (decide ((qct b.tail (false || b.isEmpty)).1 > 2000)) (qct b.tail (false || b.isEmpty)).2.1 (qct b.tail (false || b.isEmpty)).2.2)) r → Ev (fun k => q_Decode.f k b) r := by
  intro r h
  unfold q_Decode.f
  refine ev_neg (by omega) ?_
  rw [rbyteB b false hb]
  exact Ev.bind (ev_some _) (Ev.bind (qct_ev _ hb.tail) h)
 by_cases h1 : (qct b.tail (false || b.isEmpty)).2.2 = true
 ·exact ⟨_, head _ (ev_pos h1 stop), Or.inl rfl⟩
 ·by_cases h2 : (qct b.tail (false || b.isEmpty)).1 > 2000
  ·rw [show decide ((qct b.tail (false || b.isEmpty)).1 > 2000) = true by simpa using h2] at head
   exact ⟨_, head _ (ev_neg h1 stop), Or.inl rfl⟩
  ·rw [show decide ((qct b.tail (false || b.isEmpty)).1 > 2000) = false by simpa using h2] at head
   obtain ⟨many, hm⟩ := Int.eq_ofNat_of_zero_le hv.1
   have hj : ∃ r, Ev (fun k => q_Decode.j0 k b (b.headD 0) (qct b.tail (false || b.isEmpty)).1 false (qct b.tail (false || b.isEmpty)).2.1 (qct b.tail (false || b.isEmpty)).2.2) r ∧ DecIn b r := by
    by_cases h0 : (qct b.tail (false || b.isEmpty)).1 > 0
    ·obtain ⟨v, hv2⟩ := qvalues_total (b.headD 0) (many := many) (by omega) (s := (qct b.tail (false || b.isEmpty)).2.1) (qct_byt hb.tail) (qct b.tail (false || b.isEmpty)).2.2
     obtain ⟨r, hr, ho⟩ := qj1_any b (b.headD 0) v.1 v.2.1 v.2.2
     refine ⟨r, Ev.step (fun k => by rw [q_Decode.j0]) (ev_neg (by simp) (ev_pos h0 ?_)), ho⟩
     rw [hm]
     exact Ev.bind hv2 hr
    ·obtain ⟨r, hr, ho⟩ := qj1_any b (b.headD 0) [] (qct b.tail (false || b.isEmpty)).2.1 (qct b.tail (false || b.isEmpty)).2.2
     exact ⟨r, Ev.step (fun k => by rw [q_Decode.j0]) (ev_neg (by simp) (ev_neg h0 hr)), ho⟩
   obtain ⟨r, hr, ho⟩ := hj
   exact ⟨r, head r (ev_neg h1 hr), ho⟩
theorem rDecode_round {c : Nat} (h1 : 1 ≤ c) (h5 : c ≤ 5) {l : List Int} (h : Okv l) : Ev (fun k => q_Decode.f k (enc c l)) (l, 0) := by
 have hb := enc_byt (c := c) (by omega) h
 have hl := enc_len (c := c) h
 have hn := h.1
 have htl : (enc c l).tail = cnt l.length ++ (if l = [] then [] else body c l) := by simp [enc]
 have hhd : (enc c l).headD 0 = (c : Int) := by simp [enc]
 have hem : (enc c l).isEmpty = false := by simp [enc]
 have ht : Byt (cnt l.length ++ (if l = [] then [] else body c l)) := by rw [← htl]; exact hb.tail
 have hct := qct_cnt (n := l.length) (if l = [] then [] else body c l) (by omega)
 have ean : encAns (c : Int) l = (enc c l, 0) := by
  unfold encAns
  rw [if_pos (by omega), if_pos (chk_ok.2 h), Int.toNat_natCast]
 have fin : ∀ s, Ev (fun k => q_Decode.j1 k (enc c l) (c : Int) l s false) (l, 0) := by
  intro s
  refine Ev.step (fun k => by rw [q_Decode.j1]) (ev_neg (by simp) (Ev.bind (rEncode_ev (c : Int) l) ?_))
  rw [ean]
  exact ev_pos rfl (Ev.bind (eqB_ev (by show (enc c l).length ≤ _; omega)) (ev_pos (by simp) (ev_some _)))
 unfold q_Decode.f
 refine ev_neg (by omega) ?_
 rw [rbyteB _ false hb, htl, hhd, hem]
 refine Ev.bind (ev_some _) (Ev.bind (qct_ev _ ht) ?_)
 rw [show (false || false) = false from rfl, hct]
 dsimp only
 refine ev_neg (by simp) ?_
 rw [show decide ((l.length : Int) > 2000) = false by simp; omega]
 refine Ev.step (fun k => by rw [q_Decode.j0]) (ev_neg (by simp) ?_)
 by_cases hz : l = []
 ·refine ev_neg (by rw [hz]; simp) ?_
  have := fin (if l = [] then [] else body c l)
  rw [hz] at this ⊢
  exact this
 ·have hp := List.length_pos_iff.2 hz
  refine ev_pos (by omega) ?_
  rw [if_neg hz]
  exact Ev.bind (qvalues_round ⟨h1, h5⟩ h hz (body_byt c h hz)) (fin [])
theorem Decode_in {b : List Int} (hb : Byt b) (hl : ¬ b.length > 500000) : ∃ r, Ev (fun k => e_Decode.f k b) r ∧ DecIn b r := by
 obtain ⟨r, hr, ho⟩ := decode_total hb
 rcases ho with rfl | ⟨c, l, h1, h5, h, he, rfl⟩
 ·exact ⟨([], 3), by unfold e_Decode.f; exact ev_neg (by omega) (Ev.bind hr (ev_neg (by simp) (ev_some _))), Or.inl rfl⟩
 ·exact ⟨(l, 0), by unfold e_Decode.f; exact ev_neg (by omega) (Ev.bind hr (ev_pos rfl (ev_some _))), Or.inr ⟨c, l, h1, h5, h, he, rfl⟩⟩
/-- Both decode alike. -/
theorem both_decode {b : List Int} (hb : Byt b) : ∃ r, Ev (fun k => e_Decode.f k b) r ∧ Ev (fun k => q_Decode.f k b) r ∧ (r.1 = [] ∨ Okv r.1) := by
 by_cases hl : b.length > 500000
 ·exact ⟨([], 2), by unfold e_Decode.f; exact ev_pos (by omega) (ev_some _), by unfold q_Decode.f; exact ev_pos (by omega) (ev_some _), Or.inl rfl⟩
 ·obtain ⟨r, hr, ho⟩ := Decode_in hb hl
  obtain ⟨q, hq, hoq⟩ := rDecode_total hb hl
  rcases ho with rfl | ⟨c, l, h1, h5, h, rfl, rfl⟩
  ·rcases hoq with rfl | ⟨c, l, h1, h5, h, rfl, rfl⟩
   ·exact ⟨_, hr, hq, Or.inl rfl⟩
   ·exact ⟨_, Decode_round h1 h5 h, hq, Or.inr h⟩
  ·exact ⟨_, hr, rDecode_round h1 h5 h, Or.inr h⟩
theorem byt_of_wf {l : List Int} (h : ∀ x ∈ l, (fun n : Int => (Lit.int .u8 n).wf = true) x) : Byt l := by
 intro n hn
 have a : IntKind.u8.min = 0 := by decide
 have b : IntKind.u8.max = 255 := by decide
 have := h n hn
 simp [Lit.wf] at this
 omega
theorem encAns_len (c : Int) (l : List Int) : (encAns c l).1.length ≤ 100000 := by
 unfold encAns
 split
 ·split
  ·rename_i h
   exact enc_len (chk_ok.1 h)
  ·simp
 ·simp
/-- What decoding may answer. -/
def DA (r : List Int × Int) : Prop := (r.2 = 0 ∧ Okv r.1) ∨ r.2 ≠ 0
theorem dec2 {b : List Int} (hb : Byt b) : ∃ r, Ev (fun k => e_Decode.f k b) r ∧ Ev (fun k => q_Decode.f k b) r ∧ DA r := by
 by_cases hl : b.length > 500000
 ·exact ⟨([], 2), by unfold e_Decode.f; exact ev_pos (by omega) (ev_some _), by unfold q_Decode.f; exact ev_pos (by omega) (ev_some _), Or.inr (by simp)⟩
 ·obtain ⟨r, hr, ho⟩ := Decode_in hb hl
  obtain ⟨q, hq, hoq⟩ := rDecode_total hb hl
  rcases ho with rfl | ⟨c, l, h1, h5, h, rfl, rfl⟩
  ·rcases hoq with rfl | ⟨c, l, h1, h5, h, rfl, rfl⟩
   ·exact ⟨_, hr, hq, Or.inr (by simp)⟩
   ·exact ⟨_, Decode_round h1 h5 h, hq, Or.inl ⟨rfl, h⟩⟩
  ·exact ⟨_, hr, rDecode_round h1 h5 h, Or.inl ⟨rfl, h⟩⟩
def atA (r : List Int × Int) (i : Int) : Int × Int := if r.2 = 0 then (if 0 ≤ i ∧ i < (r.1.length : Int) then (rd r.1 i, 0) else (0, 1)) else (0, r.2)
theorem at_e {b : List Int} {r : List Int × Int} (h : Ev (fun k => e_Decode.f k b) r) (hr : DA r) (i : Int) : Ev (fun k => e_At.f k b i) (atA r i) := by
 unfold e_At.f
 refine Ev.bind h ?_
 rcases hr with ⟨h0, ho⟩ | h0
 ·have hn := ho.1
  rw [show atA r i = (if 0 ≤ i ∧ i < (r.1.length : Int) then (rd r.1 i, 0) else (0, 1)) from if_pos h0]
  refine ev_pos h0 ?_
  rw [w64 (n := (r.1.length : Int) - 1) (by omega) (by omega), in_eq]
  refine Ev.bind (ev_some _) ?_
  by_cases hi : 0 ≤ i ∧ i < (r.1.length : Int)
  ·rw [if_pos hi]
   exact ev_pos (by simp; omega) (ev_pos hi.1 (ev_pos hi.2 (ev_some _)))
  ·rw [if_neg hi]
   exact ev_neg (by simp; omega) (ev_some _)
 ·rw [show atA r i = (0, r.2) from if_neg h0]
  exact ev_neg h0 (ev_some _)
theorem at_r {b : List Int} {r : List Int × Int} (h : Ev (fun k => q_Decode.f k b) r) (i : Int) : Ev (fun k => q_At.f k b i) (atA r i) := by
 unfold q_At.f
 refine Ev.bind h ?_
 by_cases h0 : r.2 = 0
 ·rw [show atA r i = (if 0 ≤ i ∧ i < (r.1.length : Int) then (rd r.1 i, 0) else (0, 1)) from if_pos h0]
  refine ev_pos h0 ?_
  by_cases h1 : i < 0
  ·exact ev_eq (ev_pos h1 (ev_some _)) (if_neg (fun h => by omega)).symm
  ·refine ev_neg h1 ?_
   by_cases h2 : i ≥ (r.1.length : Int)
   ·exact ev_eq (ev_pos h2 (ev_some _)) (if_neg (fun h => by omega)).symm
   ·exact ev_eq (ev_neg h2 (ev_pos (show 0 ≤ i by omega) (ev_pos (show i < (r.1.length : Int) by omega) (ev_some _)))) (if_pos (by omega)).symm
 ·rw [show atA r i = (0, r.2) from if_neg h0]
  exact ev_neg h0 (ev_some _)
/-- The places of the first n values that lie between. -/
def whl (lo hi : Int) (l : List Int) (n : Nat) : List Int := ((List.range n).filter fun i => decide (lo ≤ l.getD i 0) && decide (l.getD i 0 ≤ hi)).map (fun i : Nat => (i : Int))
theorem whl_succ (lo hi : Int) (l : List Int) (n : Nat) : whl lo hi l (n + 1) = whl lo hi l n ++ (if (decide (lo ≤ l.getD n 0) && decide (l.getD n 0 ≤ hi)) = true then [(n : Int)] else []) := by
 unfold whl
 rw [List.range_succ, List.filter_append, List.map_append]
 congr 1
 by_cases h : (decide (lo ≤ l.getD n 0) && decide (l.getD n 0 ≤ hi)) = true
 ·rw [if_pos h, List.filter_cons, if_pos h]; rfl
 ·rw [if_neg h, List.filter_cons, if_neg h]; rfl
theorem whl_len (lo hi : Int) (l : List Int) (n : Nat) : (whl lo hi l n).length ≤ n := by
 unfold whl
 rw [List.length_map]
 exact Nat.le_trans (List.length_filter_le _ _) (by simp)
def whA (r : List Int × Int) (lo hi : Int) : List Int × Int := if r.2 = 0 then (if lo > hi then ([], 8) else (whl lo hi r.1 r.1.length, 0)) else ([], r.2)
theorem wh_e {b : List Int} {r : List Int × Int} (h : Ev (fun k => e_Decode.f k b) r) (hr : DA r) (lo hi : Int) : Ev (fun k => e_Where.f k b lo hi) (whA r lo hi) := by
 unfold e_Where.f
 refine Ev.bind h ?_
 rcases hr with ⟨h0, ho⟩ | h0
 ·have hn := ho.1
  rw [show whA r lo hi = (if lo > hi then ([], 8) else (whl lo hi r.1 r.1.length, 0)) from if_pos h0]
  refine ev_pos h0 ?_
  by_cases hlh : lo > hi
  ·rw [show (if lo > hi then (([] : List Int), (8 : Int)) else (whl lo hi r.1 r.1.length, 0)) = ([], 8) from if_pos hlh]
   exact ev_pos hlh (ev_some _)
  ·rw [show (if lo > hi then (([] : List Int), (8 : Int)) else (whl lo hi r.1 r.1.length, 0)) = (whl lo hi r.1 r.1.length, 0) from if_neg hlh]
   refine ev_neg hlh ?_
   generalize r.1 = l at hn ⊢
   have key : ∀ d i, i ≤ l.length → l.length - i ≤ d → Ev (fun k => e_Where.l0 k lo hi l (whl lo hi l i) (l.length : Int) (i : Int)) (whl lo hi l l.length, 0) := by
    intro d
    induction d with
    | zero =>
     intro i hi' hd
     refine Ev.step (fun k => by rw [e_Where.l0]) (ev_neg (by omega) ?_)
     rw [show i = l.length by omega]
     exact ev_some _
    | succ d ih =>
     intro i hi' hd
     refine Ev.step (fun k => by rw [e_Where.l0]) ?_
     by_cases hlt : i < l.length
     ·refine ev_pos (by omega) (ev_pos (by omega) (ev_pos (by omega) ?_))
      have hw := whl_len lo hi l i
      have hs := whl_succ lo hi l i
      have hih := ih (i + 1) (by omega) (by omega)
      rw [rdD, in_eq, w64 (by omega) (by omega)]
      refine Ev.bind (ev_some _) ?_
      by_cases hin : (decide (lo ≤ l.getD i 0) && decide (l.getD i 0 ≤ hi)) = true
      ·rw [if_pos hin] at hs
       rw [hs] at hih
       exact ev_pos hin (ev_pos (by omega) hih)
      ·rw [if_neg hin, List.append_nil] at hs
       rw [hs] at hih
       exact ev_neg hin hih
     ·refine ev_neg (by omega) ?_
      rw [show i = l.length by omega]
      exact ev_some _
   have := key l.length 0 (by omega) (by omega)
   simpa [whl] using this
 ·rw [show whA r lo hi = ([], r.2) from if_neg h0]
  exact ev_neg h0 (ev_some _)
theorem wh_r {b : List Int} {r : List Int × Int} (h : Ev (fun k => q_Decode.f k b) r) (hr : DA r) (lo hi : Int) : Ev (fun k => q_Where.f k b lo hi) (whA r lo hi) := by
 unfold q_Where.f
 refine Ev.bind h ?_
 rcases hr with ⟨h0, ho⟩ | h0
 ·have hn := ho.1
  rw [show whA r lo hi = (if lo > hi then ([], 8) else (whl lo hi r.1 r.1.length, 0)) from if_pos h0]
  refine ev_pos h0 ?_
  by_cases hlh : lo > hi
  ·rw [show (if lo > hi then (([] : List Int), (8 : Int)) else (whl lo hi r.1 r.1.length, 0)) = ([], 8) from if_pos hlh]
   exact ev_pos hlh (ev_some _)
  ·rw [show (if lo > hi then (([] : List Int), (8 : Int)) else (whl lo hi r.1 r.1.length, 0)) = (whl lo hi r.1 r.1.length, 0) from if_neg hlh]
   refine ev_neg hlh ?_
   generalize r.1 = l at hn ⊢
   have key : ∀ d i, i ≤ l.length → l.length - i ≤ d → Ev (fun k => q_Where.l0 k lo hi l (whl lo hi l i) (l.length : Int) (i : Int)) (whl lo hi l l.length, 0) := by
    intro d
    induction d with
    | zero =>
     intro i hi' hd
     refine Ev.step (fun k => by rw [q_Where.l0]) (ev_neg (by omega) ?_)
     rw [show i = l.length by omega]
     exact ev_some _
    | succ d ih =>
     intro i hi' hd
     refine Ev.step (fun k => by rw [q_Where.l0]) ?_
     by_cases hlt : i < l.length
     ·refine ev_pos (by omega) (ev_pos (by omega) (ev_pos (by omega) ?_))
      have hw := whl_len lo hi l i
      have hs := whl_succ lo hi l i
      have hih := ih (i + 1) (by omega) (by omega)
      rw [rdD, w64 (by omega) (by omega)]
      by_cases h1 : l.getD i 0 ≥ lo
      ·refine ev_pos h1 ?_
       by_cases h2 : l.getD i 0 ≤ hi
       ·rw [if_pos (by rw [Bool.and_eq_true, decide_eq_true_eq, decide_eq_true_eq]; omega)] at hs
        rw [hs] at hih
        exact ev_pos h2 (ev_pos (by omega) hih)
       ·rw [if_neg (by rw [Bool.and_eq_true, decide_eq_true_eq, decide_eq_true_eq]; omega), List.append_nil] at hs
        rw [hs] at hih
        exact ev_neg h2 hih
      ·rw [if_neg (by rw [Bool.and_eq_true, decide_eq_true_eq, decide_eq_true_eq]; omega), List.append_nil] at hs
       rw [hs] at hih
       exact ev_neg h1 hih
     ·refine ev_neg (by omega) ?_
      rw [show i = l.length by omega]
      exact ev_some _
   have := key l.length 0 (by omega) (by omega)
   simpa [whl] using this
 ·rw [show whA r lo hi = ([], r.2) from if_neg h0]
  exact ev_neg h0 (ev_some _)
theorem whA_len {r : List Int × Int} (hr : DA r) (lo hi : Int) : (whA r lo hi).1.length ≤ 2000 := by
 unfold whA
 rcases hr with ⟨h0, ho⟩ | h0
 ·rw [if_pos h0]
  split
  ·simp
  ·exact Nat.le_trans (whl_len _ _ _ _) ho.1
 ·rw [if_neg h0]
  simp
def leA (r : List Int × Int) : Int × Int × Bool × Int := if r.2 = 0 then (if r.1 = [] then (0, 0, false, 0) else (Lib.minOf r.1, Lib.maxOf r.1, true, 0)) else (0, 0, false, r.2)
theorem le_e {b : List Int} {r : List Int × Int} (h : Ev (fun k => e_Decode.f k b) r) : Ev (fun k => e_Least.f k b) (leA r) := by
 unfold e_Least.f
 refine Ev.bind h ?_
 by_cases h0 : r.2 = 0
 ·rw [show leA r = (if r.1 = [] then (0, 0, false, 0) else (Lib.minOf r.1, Lib.maxOf r.1, true, 0)) from if_pos h0]
  refine ev_pos h0 (Ev.step (fun k => by rw [e_Least.j0]) ?_)
  by_cases hz : r.1 = []
  ·rw [if_pos hz]
   exact ev_pos (by rw [hz]; rfl) (ev_eq (ev_some _) (by rw [h0]))
  ·have hp := List.length_pos_iff.2 hz
   rw [if_neg hz]
   unfold s_Min.f s_Max.f
   rw [if_neg hz, if_neg hz]
   exact ev_neg (by simp; exact hz) (Ev.bind (ev_some _) (Ev.bind (ev_some _) (ev_some _)))
 ·rw [show leA r = (0, 0, false, r.2) from if_neg h0]
  exact ev_neg h0 (Ev.step (fun k => by rw [e_Least.j0]) (ev_pos rfl (ev_some _)))
theorem le_r {b : List Int} {r : List Int × Int} (h : Ev (fun k => q_Decode.f k b) r) : Ev (fun k => q_Least.f k b) (leA r) := by
 unfold q_Least.f
 refine Ev.bind h ?_
 by_cases h0 : r.2 = 0
 ·rw [show leA r = (if r.1 = [] then (0, 0, false, 0) else (Lib.minOf r.1, Lib.maxOf r.1, true, 0)) from if_pos h0]
  refine ev_pos h0 (Ev.step (fun k => by rw [q_Least.j0]) ?_)
  by_cases hz : r.1 = []
  ·rw [if_pos hz]
   exact ev_pos (by rw [hz]; rfl) (ev_eq (ev_some _) (by rw [h0]))
  ·have hp := List.length_pos_iff.2 hz
   rw [if_neg hz]
   unfold s_Min.f s_Max.f
   rw [if_neg hz, if_neg hz]
   exact ev_neg (by simp; exact hz) (Ev.bind (ev_some _) (Ev.bind (ev_some _) (ev_some _)))
 ·rw [show leA r = (0, 0, false, r.2) from if_neg h0]
  exact ev_neg h0 (Ev.step (fun k => by rw [q_Least.j0]) (ev_pos rfl (ev_some _)))
def joA (r q : List Int × Int) : List Int × Int := if r.2 = 0 then (if q.2 = 0 then (if r.1.length + q.1.length > 2000 then ([], 2) else (enc (bestOf (r.1 ++ q.1)) (r.1 ++ q.1), 0)) else ([], q.2)) else ([], r.2)
theorem Okv_app {l m : List Int} (hl : Okv l) (hm : Okv m) (h : l.length + m.length ≤ 2000) : Okv (l ++ m) :=
 ⟨by simpa using h, fun v hv => (List.mem_append.1 hv).elim (hl.2 v) (hm.2 v)⟩
theorem jo_e {a b : List Int} {r q : List Int × Int} (h : Ev (fun k => e_Decode.f k a) r) (g : Ev (fun k => e_Decode.f k b) q) (hr : DA r) (hq : DA q) : Ev (fun k => e_Joined.f k a b) (joA r q) := by
 unfold e_Joined.f
 refine Ev.bind h ?_
 rcases hr with ⟨h0, ho⟩ | h0
 ·rw [show joA r q = (if q.2 = 0 then (if r.1.length + q.1.length > 2000 then ([], 2) else (enc (bestOf (r.1 ++ q.1)) (r.1 ++ q.1), 0)) else ([], q.2)) from if_pos h0]
  refine ev_pos h0 (Ev.bind g ?_)
  rcases hq with ⟨g0, go⟩ | g0
  ·have h1 := ho.1
   have h2 := go.1
   rw [show (if q.2 = 0 then (if r.1.length + q.1.length > 2000 then ([], 2) else (enc (bestOf (r.1 ++ q.1)) (r.1 ++ q.1), 0)) else ([], q.2)) = (if r.1.length + q.1.length > 2000 then ([], 2) else (enc (bestOf (r.1 ++ q.1)) (r.1 ++ q.1), 0)) from if_pos g0]
   refine ev_pos g0 ?_
   rw [w64 (n := (r.1.length : Int) + q.1.length) (by omega) (by omega)]
   by_cases hb : r.1.length + q.1.length > 2000
   ·rw [if_pos hb]
    exact ev_pos (by omega) (ev_some _)
   ·rw [if_neg hb]
    have hok := Okv_app ho go (by omega)
    have hs := bestOf_spec (r.1 ++ q.1)
    exact ev_neg (by omega) (Ev.bind (concat_ev (x := r.1) (y := q.1) (by omega) (by omega)) (Ev.bind (best_ev hok) (Ev.bind (e_ev hs.1 hs.2.1 hok) (ev_some _))))
  ·rw [show (if q.2 = 0 then (if r.1.length + q.1.length > 2000 then ([], 2) else (enc (bestOf (r.1 ++ q.1)) (r.1 ++ q.1), 0)) else ([], q.2)) = ([], q.2) from if_neg g0]
   exact ev_neg g0 (ev_some _)
 ·rw [show joA r q = ([], r.2) from if_neg h0]
  exact ev_neg h0 (ev_some _)
theorem jo_r {a b : List Int} {r q : List Int × Int} (h : Ev (fun k => q_Decode.f k a) r) (g : Ev (fun k => q_Decode.f k b) q) (hr : DA r) (hq : DA q) : Ev (fun k => q_Joined.f k a b) (joA r q) := by
 unfold q_Joined.f
 refine Ev.bind h ?_
 rcases hr with ⟨h0, ho⟩ | h0
 ·rw [show joA r q = (if q.2 = 0 then (if r.1.length + q.1.length > 2000 then ([], 2) else (enc (bestOf (r.1 ++ q.1)) (r.1 ++ q.1), 0)) else ([], q.2)) from if_pos h0]
  refine ev_pos h0 (Ev.bind g ?_)
  rcases hq with ⟨g0, go⟩ | g0
  ·have h1 := ho.1
   have h2 := go.1
   rw [show (if q.2 = 0 then (if r.1.length + q.1.length > 2000 then ([], 2) else (enc (bestOf (r.1 ++ q.1)) (r.1 ++ q.1), 0)) else ([], q.2)) = (if r.1.length + q.1.length > 2000 then ([], 2) else (enc (bestOf (r.1 ++ q.1)) (r.1 ++ q.1), 0)) from if_pos g0]
   refine ev_pos g0 ?_
   rw [w64 (n := (r.1.length : Int) + q.1.length) (by omega) (by omega)]
   by_cases hb : r.1.length + q.1.length > 2000
   ·rw [if_pos hb]
    exact ev_pos (by omega) (ev_some _)
   ·rw [if_neg hb]
    have hok := Okv_app ho go (by omega)
    have hs := bestOf_spec (r.1 ++ q.1)
    have hB := rBest_ev (r.1 ++ q.1)
    rw [show bestAns (r.1 ++ q.1) = ((bestOf (r.1 ++ q.1) : Int), 0) by unfold bestAns; rw [if_pos (chk_ok.2 hok)]] at hB
    exact ev_neg (by omega) (Ev.bind (concat_ev (x := r.1) (y := q.1) (by omega) (by omega)) (Ev.bind hB (Ev.bind (rbytes_ev hs.1 hs.2.1 hok) (ev_some _))))
  ·rw [show (if q.2 = 0 then (if r.1.length + q.1.length > 2000 then ([], 2) else (enc (bestOf (r.1 ++ q.1)) (r.1 ++ q.1), 0)) else ([], q.2)) = ([], q.2) from if_neg g0]
   exact ev_neg g0 (ev_some _)
 ·rw [show joA r q = ([], r.2) from if_neg h0]
  exact ev_neg h0 (ev_some _)
theorem joA_len {r q : List Int × Int} (hr : DA r) (hq : DA q) : (joA r q).1.length ≤ 100000 := by
 unfold joA
 rcases hr with ⟨h0, ho⟩ | h0
 ·rw [if_pos h0]
  rcases hq with ⟨g0, go⟩ | g0
  ·rw [if_pos g0]
   split
   ·simp
   ·exact enc_len (Okv_app ho go (by omega))
  ·rw [if_neg g0]; simp
 ·rw [if_neg h0]; simp
theorem asked2_ev {a b : List Int} (ha : Byt a) (hb : Byt b) (i lo hi : Int) : Ev (fun k => lw.f k a b i lo hi) true := by
 obtain ⟨r, r1, r2, hr⟩ := dec2 ha
 obtain ⟨q, q1, q2, hq⟩ := dec2 hb
 have hw := whA_len hr lo hi
 have hj := joA_len hr hq
 have j2 : Ev (fun k => lw.j2 k a b false) true :=
  Ev.step (fun k => by rw [lw.j2]) (ev_neg (by simp) (Ev.bind (jo_e r1 q1 hr hq) (Ev.bind (jo_r r2 q2 hr hq) (ev_pos rfl (Ev.bind (eqB_ev (x := (joA r q).1) (by omega)) (ev_pos (show decide ((joA r q).1 = (joA r q).1) = true by simp) (Ev.bind awake_e (ev_some _))))))))
 have j1 : Ev (fun k => lw.j1 k a b false) true := by
  refine Ev.step (fun k => by rw [lw.j1]) (ev_neg (by simp) (Ev.bind (le_e r1) (Ev.bind (le_r r2) (ev_pos rfl (ev_pos rfl (ev_pos rfl ?_))))))
  rw [show ((leA r).2.2.1 != (leA r).2.2.1) = false by simp]
  exact j2
 have j0 : Ev (fun k => lw.j0 k a b lo hi false) true := by
  refine Ev.step (fun k => by rw [lw.j0]) (ev_neg (by simp) (Ev.bind (wh_e r1 hr lo hi) (Ev.bind (wh_r r2 hr lo hi) (ev_pos rfl (Ev.bind (eqI_ev (x := (whA r lo hi).1) (by omega)) ?_)))))
  rw [show (!decide ((whA r lo hi).1 = (whA r lo hi).1)) = false by simp]
  exact j1
 unfold lw.f
 refine Ev.bind (at_e r1 hr i) (Ev.bind (at_r r2 i) (ev_pos rfl ?_))
 rw [show ((atA r i).1 != (atA r i).1) = false by simp]
 exact j0
theorem asked2_pure (a b : List Int) (i lo hi : Int) (h0 : a.length ≤ maxLen ∧ ∀ x ∈ a, (fun n : Int => (Lit.int .u8 n).wf = true) x) (y0 : a.length * 1 ≤ 140737488351232) (h1 : b.length ≤ maxLen ∧ ∀ x ∈ b, (fun n : Int => (Lit.int .u8 n).wf = true) x) (y1 : b.length * 1 ≤ 140737488351232) (hi1 : (Lit.int .i64 i).wf = true) (h2 : (Lit.int .i64 lo).wf = true) (h3 : (Lit.int .i64 hi).wf = true) : ∃ k, lw.f k a b i lo hi = some true := by
 obtain ⟨K, h⟩ := asked2_ev (byt_of_wf h0.2) (byt_of_wf h1.2) i lo hi
 exact ⟨K, h K (Nat.le_refl _)⟩
end Go.Proofs.Ythhdihnaicggiaa.K
