/- Values, read by the reference's reader with each code, in plain Lean: an answer, whatever the bytes; and what was written is read. No conditions beyond those in each theorem. -/
import Derived.Test.YthhdihnaicggiaaIMC
import Derived.Test.YthhdihnaicggiaaIMS
import Derived.Test.YthhdihnaicggiaaIM3r
namespace Go.Proofs.Ythhdihnaicggiaa.I
open Go.RowKit Go.Proofs.YthhdihnaicggiaaW.PrintWords Go.Proofs.YthhdihnaicggiaaW.PrintLast Go.Proofs.YthhdihnaicggiaaW.PrintMore
set_option linter.unusedVariables false
set_option linter.unusedSimpArgs false

/-! ### bytes, counts, numbers -/
theorem rbyteB (s : List Int) (bad : Bool) (h : Byt s) : peristyleref2_reader_byte.f s bad = some (s.headD 0, s.tail, bad || s.isEmpty) := by
 cases s with
 | nil => simp [peristyleref2_reader_byte.f, wrap64]
 | cons b t =>
  have hb := h b (List.mem_cons_self ..)
  simp [peristyleref2_reader_byte.f, w64 (show -9223372036854775808 ≤ b by omega) (show b ≤ 9223372036854775807 by omega)]
theorem head0 {s : List Int} (h : Byt s) : 0 ≤ s.headD 0 ∧ s.headD 0 ≤ 255 := by
 cases s with
 | nil => simp
 | cons b t => exact h b (List.mem_cons_self ..)
theorem Byt.tail {s : List Int} (h : Byt s) : Byt s.tail := by rw [← List.drop_one]; exact h.drop 1
/-- What a count of the reference leaves. -/
def qct (s : List Int) (bad : Bool) : Int × List Int × Bool := if bad = true then (s.headD 0 % 128, s.tail, true) else rc 8 0 0 s
theorem qct_ev {s : List Int} (bad : Bool) (hs : Byt s) : Ev (fun k => peristyleref2_reader_count.f k s bad) (qct s bad) := by
 cases bad with
 | false => exact rcount2_ev hs
 | true =>
  have hh := head0 hs
  have e : Go.bits .or .i64 0 (shl .i64 (Go.bits .and .i64 (s.headD 0) 127) 0) = s.headD 0 % 128 :=
   (orshl (v := 0) (i := 0) (b := s.headD 0) (by omega) (by simp) hh.1 hh.2 (by omega)).trans (by simp)
  show Ev (fun k => peristyleref2_reader_count.l0 k 0 0 s true) (s.headD 0 % 128, s.tail, true)
  refine Ev.step (fun k => by rw [peristyleref2_reader_count.l0]) (ev_pos (by omega) ?_)
  rw [rbyteB s true hs]
  refine Ev.bind (ev_some _) (ev_pos (by omega) ?_)
  dsimp only
  rw [e]
  by_cases h : s.headD 0 < 128
  ·exact ev_pos h (ev_some _)
  ·exact ev_neg h (ev_pos (by simp) (ev_some _))
theorem qct_val (s : List Int) (bad : Bool) : 0 ≤ (qct s bad).1 ∧ (qct s bad).1 < 72057594037927936 := by
 unfold qct
 split
 ·dsimp only; omega
 ·have := rc_val 8 0 0 s (by omega) (by simp)
  exact ⟨this.1, by omega⟩
theorem qct_byt {s : List Int} {bad : Bool} (h : Byt s) : Byt (qct s bad).2.1 := by
 unfold qct
 split
 ·exact h.tail
 ·exact h.rc
theorem qct_bad (s : List Int) : (qct s true).2.2 = true := rfl
theorem qct_cnt {n : Nat} (rest : List Int) (hn : n < 72057594037927936) : qct (cnt n ++ rest) false = ((n : Int), rest, false) := by
 unfold qct
 rw [if_neg (by simp), rc_cnt8 rest hn]
/-- What a number of the reference leaves. -/
def qnt (s : List Int) (bad : Bool) : Int × List Int × Bool := (unz (qct s bad).1, (qct s bad).2.1, (qct s bad).2.2)
theorem qnt_ev {s : List Int} (bad : Bool) (hs : Byt s) : Ev (fun k => peristyleref2_reader_number.f k s bad) (qnt s bad) := by
 unfold peristyleref2_reader_number.f qnt
 refine Ev.bind (qct_ev bad hs) ?_
 have hv := qct_val s bad
 have et : Int.tmod (qct s bad).1 2 = (qct s bad).1 % 2 := Int.tmod_eq_emod_of_nonneg hv.1
 unfold unz
 by_cases h : (qct s bad).1 % 2 = 1
 ·rw [if_pos h]
  refine ev_pos (by rw [et]; exact h) (ev_eq (ev_some _) ?_)
  have e1 : wrap64 (-wrap64 ((qct s bad).1 + 1)) = -((qct s bad).1 + 1) := by rw [w64 (n := (qct s bad).1 + 1) (by omega) (by omega), w64 (by omega) (by omega)]
  rw [e1, Int.neg_tdiv, Int.tdiv_eq_ediv_of_nonneg (by omega), w64 (by omega) (by omega)]
 ·rw [if_neg h]
  refine ev_neg (by rw [et]; exact h) (ev_eq (ev_some _) ?_)
  rw [Int.tdiv_eq_ediv_of_nonneg hv.1, w64 (by omega) (by omega)]
theorem qnt_byt {s : List Int} {bad : Bool} (h : Byt s) : Byt (qnt s bad).2.1 := qct_byt h
theorem qnt_num {v : Int} (rest : List Int) (h0 : -4000000000000000 ≤ v) (h1 : v ≤ 4000000000000000) : qnt (num v ++ rest) false = (v, rest, false) := by
 unfold qnt num
 rw [qct_cnt rest (zig_lt h0 h1)]
 simp only [unz_zig]

/-! ### packed bits -/
theorem orbit {v b : Int} (h0 : 0 ≤ v) (h1 : v < 1152921504606846976) (b0 : 0 ≤ b) (b1 : b ≤ 1) : Go.bits .or .i64 (v * 2) b = 2 * v + b := by
 obtain ⟨a, rfl⟩ := Int.eq_ofNat_of_zero_le h0
 obtain ⟨c, rfl⟩ := Int.eq_ofNat_of_zero_le b0
 have e := Nat.two_pow_add_eq_or_of_lt (b := c) (i := 1) (by omega) a
 rw [show (a : Int) * 2 = ((2 ^ 1 * a : Nat) : Int) by omega, (bits_nat .i64 63 (by decide) (fun n a b => by rw [IntKind.wrap_i64]; omega) (2 ^ 1 * a) c (by omega) (by omega)).2, ← e]
 omega
theorem q_l1 {s : List Int} (hs : Byt s) (bad : Bool) (m : Int) (w : Nat) (hw : w ≤ 60) (x31 x32 : Int) (i : Nat) (p : Nat) (hp : p + w ≤ 1000000) (hl : p + w ≤ 8 * s.length) (r : Ans) (d : Nat) : ∀ (j : Nat) (row : List Int), j + d = w → i < row.length → row.length ≤ 100000 → row.getD i 0 = bv s p j →
 Ev (fun k => peristyleref2_reader_unpacked.l0 k m (w : Int) (row.set i (bv s p w)) ((p + w : Nat) : Int) x31 (wrap64 (x32 + 1)) s bad) r →
 Ev (fun k => peristyleref2_reader_unpacked.l1 k m (w : Int) row ((p + j : Nat) : Int) (i : Int) x31 x32 (w : Int) (j : Int) s bad) r := by
 induction d with
 | zero =>
  intro j row hj hi hr hv h
  obtain rfl : j = w := by omega
  refine Ev.step (fun k => by rw [peristyleref2_reader_unpacked.l1]) (ev_neg (by omega) ?_)
  have e : row.set i (bv s p j) = row := by
   rw [← hv]
   refine List.ext_getElem? fun q => ?_
   rw [List.getElem?_set]
   by_cases hq : i = q
   ·subst hq
    rw [if_pos rfl, if_pos hi]
    simp [List.getD, hi]
   ·rw [if_neg hq]
  rw [e] at h
  exact h
 | succ d ih =>
  intro j row hj hi hr hv h
  have hb := bv_bound s p j
  have h60 : (2 : Int) ^ j ≤ 2 ^ 59 := by
   have := Nat.pow_le_pow_right (n := 2) (by omega) (show j ≤ 59 by omega)
   exact_mod_cast this
  have hbit : 0 ≤ bitN s (p + j) ∧ bitN s (p + j) ≤ 1 := by unfold bitN; omega
  refine Ev.step (fun k => by rw [peristyleref2_reader_unpacked.l1]) ?_
  rw [td8 (p + j) (by omega), tm8, bit_eq hs, rdD, hv, w64 (n := bv s p j * 2) (by omega) (by omega), orbit hb.1 (by omega) hbit.1 hbit.2, w64 (n := ((p + j : Nat) : Int) + 1) (by omega) (by omega), w64 (n := (j : Int) + 1) (by omega) (by omega)]
  refine ev_pos (by omega) (ev_pos (by omega) (ev_pos (by omega) (ev_pos (by omega) (ev_pos (by omega) (ev_pos (by omega) ?_)))))
  rw [Int.toNat_natCast]
  exact ih (j + 1) (row.set i (2 * bv s p j + bitN s (p + j))) (by omega) (by simpa using hi) (by simpa using hr) (by simp [List.getD, hi, bv]) (by rw [List.set_set]; exact h)
theorem q_ev {s : List Int} (hs : Byt s) (bad : Bool) {m w : Nat} (hm : m ≤ 2000) (hw : w ≤ 255) : Ev (fun k => peristyleref2_reader_unpacked.f k s bad (m : Int) (w : Int)) (if w ≤ 60 ∧ (m * w + 7) / 8 ≤ s.length then (ups s m w, s.drop ((m * w + 7) / 8), bad) else ([], s, true)) := by
 have hmul : m * w ≤ 2000 * 255 := Nat.mul_le_mul hm hw
 have hT : wrap64 (Int.tdiv (wrap64 (wrap64 ((m : Int) * (w : Int)) + 7)) 8) = (((m * w + 7) / 8 : Nat) : Int) := by
  rw [show (m : Int) * (w : Int) = ((m * w : Nat) : Int) by rw [Int.natCast_mul], w64 (n := ((m * w : Nat) : Int)) (by omega) (by omega), w64 (n := ((m * w : Nat) : Int) + 7) (by omega) (by omega), Int.tdiv_eq_ediv_of_nonneg (by omega), w64 (by omega) (by omega)]
  omega
 have stop : Ev (fun k => peristyleref2_reader_unpacked.j0 k (m : Int) (w : Int) true s bad) ([], s, true) :=
  Ev.step (fun k => by rw [peristyleref2_reader_unpacked.j0]) (ev_pos rfl (ev_some _))
 unfold peristyleref2_reader_unpacked.f
 rw [hT]
 by_cases h60 : w ≤ 60
 ·refine ev_neg (by omega) ?_
  by_cases hl : (m * w + 7) / 8 ≤ s.length
  ·rw [if_pos ⟨h60, hl⟩, show decide ((((m * w + 7) / 8 : Nat) : Int) > (s.length : Int)) = false by simp; omega]
   refine Ev.step (fun k => by rw [peristyleref2_reader_unpacked.j0]) (ev_neg (by simp) (ev_pos (by omega) (ev_pos (by omega) (Ev.bind (ev_some _) ?_))))
   rw [Int.toNat_natCast, List.length_replicate]
   have fin : ∀ x8 : Int, Ev (fun k => peristyleref2_reader_unpacked.l0 k (m : Int) (w : Int) (ups s m w) x8 (m : Int) (m : Int) s bad) (ups s m w, s.drop ((m * w + 7) / 8), bad) := by
    intro x8
    refine Ev.step (fun k => by rw [peristyleref2_reader_unpacked.l0]) ?_
    rw [hT, Int.toNat_natCast]
    exact ev_neg (by omega) (ev_pos (by omega) (ev_pos (by omega) (ev_some _)))
   have key : ∀ d i, i ≤ m → m - i ≤ d → Ev (fun k => peristyleref2_reader_unpacked.l0 k (m : Int) (w : Int) (((List.range i).map fun q => bv s (q * w) w) ++ List.replicate (m - i) 0) ((i * w : Nat) : Int) (m : Int) (i : Int) s bad) (ups s m w, s.drop ((m * w + 7) / 8), bad) := by
    intro d
    induction d with
    | zero =>
     intro i hi hd
     rw [show m - i = 0 by omega, List.replicate_zero, List.append_nil, show i = m by omega]
     exact fin _
    | succ d ih =>
     intro i hi hd
     by_cases hlt : i < m
     ·refine Ev.step (fun k => by rw [peristyleref2_reader_unpacked.l0]) (ev_pos (by omega) ?_)
      have hmul2 : (i + 1) * w ≤ m * w := Nat.mul_le_mul (by omega) (Nat.le_refl _)
      rw [Nat.add_mul, Nat.one_mul] at hmul2
      have hlen : (((List.range i).map fun q => bv s (q * w) w) ++ List.replicate (m - i) 0).length = m := by simp; omega
      have := q_l1 hs bad (m : Int) w h60 (m : Int) (i : Int) i (i * w) (by omega) (by omega) (ups s m w, s.drop ((m * w + 7) / 8), bad) w 0 (((List.range i).map fun q => bv s (q * w) w) ++ List.replicate (m - i) 0) (by omega) (by omega) (by omega) ?_ ?_
      ·exact this
      ·rw [List.getD, List.getElem?_append_right (by simp), List.getElem?_replicate, bv]
       split <;> rfl
      ·rw [w64 (by omega) (by omega)]
       have hn := ih (i + 1) (by omega) (by omega)
       rw [Nat.add_mul, Nat.one_mul] at hn
       have e : (((List.range i).map fun q => bv s (q * w) w) ++ List.replicate (m - i) 0).set i (bv s (i * w) w) = ((List.range (i + 1)).map fun q => bv s (q * w) w) ++ List.replicate (m - (i + 1)) 0 := by
        rw [List.set_append_right _ _ (by simp), List.range_succ, List.map_append, show m - i = (m - (i + 1)) + 1 by omega, List.replicate_succ]
        simp
       rw [e]
       exact hn
     ·rw [show m - i = 0 by omega, List.replicate_zero, List.append_nil, show i = m by omega]
      exact fin _
   have := key m 0 (by omega) (by omega)
   simpa using this
  ·rw [if_neg (fun h => hl h.2), show decide ((((m * w + 7) / 8 : Nat) : Int) > (s.length : Int)) = true by simp; omega]
   exact stop
 ·rw [if_neg (fun h => h60 h.1)]
  exact ev_pos (by omega) stop
/-- Distinct values by their numbers. -/
theorem p_l0 {of : List Int} (s : List Int) (bad : Bool) (u : List Int) (hu : u.length ≤ 2000) (h0 : ∀ q ∈ u, 0 ≤ q) (d : Nat) : ∀ (i : Nat) (pre : List Int), pre.length = i → i ≤ u.length → u.length - i ≤ d →
 (∃ r : Ans, Ev (fun k => peristyleref2_reader_picked.l0 k of (pre ++ List.replicate (u.length - i) 0) u (u.length : Int) (i : Int) s bad) r) ∧
 ((∀ q ∈ u, q < (of.length : Int)) → Ev (fun k => peristyleref2_reader_picked.l0 k of (pre ++ List.replicate (u.length - i) 0) u (u.length : Int) (i : Int) s bad) (pre ++ (u.drop i).map (rd of), s, bad)) := by
 induction d with
 | zero =>
  intro i pre hp hi hd
  have hf : Ev (fun k => peristyleref2_reader_picked.l0 k of (pre ++ List.replicate (u.length - i) 0) u (u.length : Int) (i : Int) s bad) (pre ++ (u.drop i).map (rd of), s, bad) := by
   refine Ev.step (fun k => by rw [peristyleref2_reader_picked.l0]) (ev_neg (by omega) ?_)
   rw [List.drop_eq_nil_of_le (by omega), show u.length - i = 0 by omega]
   exact ev_some _
  exact ⟨⟨_, hf⟩, fun _ => hf⟩
 | succ d ih =>
  intro i pre hp hi hd
  by_cases hlt : i < u.length
  ·have hm := mem_getD hlt
   have hq0 := h0 _ hm
   have hlen : (pre ++ List.replicate (u.length - i) 0).length = u.length := by simp; omega
   have hset : (pre ++ List.replicate (u.length - i) 0).set i (rd of (u.getD i 0)) = (pre ++ [rd of (u.getD i 0)]) ++ List.replicate (u.length - (i + 1)) 0 := by
    rw [List.set_append_right _ _ (by omega), hp, Nat.sub_self, show u.length - i = (u.length - (i + 1)) + 1 by omega, List.replicate_succ, List.set_cons_zero, List.append_assoc]
    rfl
   obtain ⟨⟨r, hr⟩, h2⟩ := ih (i + 1) (pre ++ [rd of (u.getD i 0)]) (by simp [hp]) (by omega) (by omega)
   have head : ∀ r : Ans, u.getD i 0 < (of.length : Int) → Ev (fun k => peristyleref2_reader_picked.l0 k of (pre ++ [rd of (u.getD i 0)] ++ List.replicate (u.length - (i + 1)) 0) u (u.length : Int) ((i + 1 : Nat) : Int) s bad) r → Ev (fun k => peristyleref2_reader_picked.l0 k of (pre ++ List.replicate (u.length - i) 0) u (u.length : Int) (i : Int) s bad) r := by
    intro r hq h
    refine Ev.step (fun k => by rw [peristyleref2_reader_picked.l0]) ?_
    rw [rdD, Int.toNat_natCast, hset, w64 (by omega) (by omega)]
    exact ev_pos (by omega) (ev_pos (by omega) (ev_pos (by omega) (ev_neg (by omega) (ev_pos (by omega) (ev_pos (by omega) (ev_pos (by omega) h))))))
   constructor
   ·by_cases hq : u.getD i 0 < (of.length : Int)
    ·exact ⟨r, head r hq hr⟩
    ·refine ⟨([], s, true), Ev.step (fun k => by rw [peristyleref2_reader_picked.l0]) ?_⟩
     rw [rdD]
     exact ev_pos (by omega) (ev_pos (by omega) (ev_pos (by omega) (ev_pos (by omega) (ev_some _))))
   ·intro hall
    have := head _ (hall _ hm) (h2 hall)
    rw [getD_drop_head (d := 0) hlt, List.map_cons]
    rw [List.append_assoc] at this
    simpa using this
  ·have hf : Ev (fun k => peristyleref2_reader_picked.l0 k of (pre ++ List.replicate (u.length - i) 0) u (u.length : Int) (i : Int) s bad) (pre ++ (u.drop i).map (rd of), s, bad) := by
    refine Ev.step (fun k => by rw [peristyleref2_reader_picked.l0]) (ev_neg (by omega) ?_)
    rw [List.drop_eq_nil_of_le (by omega), show u.length - i = 0 by omega]
    exact ev_some _
   exact ⟨⟨_, hf⟩, fun _ => hf⟩
theorem p_ev {of : List Int} (s : List Int) (bad : Bool) {u : List Int} (hu : u.length ≤ 2000) (h0 : ∀ q ∈ u, 0 ≤ q) :
 (∃ r : Ans, Ev (fun k => peristyleref2_reader_picked.f k s bad u of) r) ∧ ((∀ q ∈ u, q < (of.length : Int)) → Ev (fun k => peristyleref2_reader_picked.f k s bad u of) (u.map (rd of), s, bad)) := by
 obtain ⟨⟨r, hr⟩, h2⟩ := p_l0 (of := of) s bad u hu h0 _ 0 [] rfl (by omega) (Nat.le_refl _)
 have head : ∀ r : Ans, Ev (fun k => peristyleref2_reader_picked.l0 k of (List.replicate u.length 0) u (u.length : Int) 0 s bad) r → Ev (fun k => peristyleref2_reader_picked.f k s bad u of) r := by
  intro r h
  unfold peristyleref2_reader_picked.f
  rw [Int.toNat_natCast]
  exact ev_pos (by omega) (ev_pos (by omega) h)
 exact ⟨⟨r, head r (by simpa using hr)⟩, fun h => head _ (by simpa using h2 h)⟩

/-! ### runs -/
theorem qr_end {many : Int} {out : List Int} (s : List Int) (bad : Bool) (h : ¬ (out.length : Int) < many) : Ev (fun k => peristyleref2_reader_runs.l0 k many out s bad) (out, s, bad) :=
 Ev.step (fun k => by rw [peristyleref2_reader_runs.l0]) (ev_neg h (Ev.step (fun k => by rw [peristyleref2_reader_runs.j1]) (ev_neg (by simp) (ev_some _))))
theorem qr_bad (many : Int) (out : List Int) (s : List Int) : Ev (fun k => peristyleref2_reader_runs.l0 k many out s true) (out, s, true) := by
 by_cases h : (out.length : Int) < many
 ·exact Ev.step (fun k => by rw [peristyleref2_reader_runs.l0]) (ev_pos h (Ev.step (fun k => by rw [peristyleref2_reader_runs.j1]) (ev_neg (by simp) (ev_some _))))
 ·exact qr_end s true h
theorem qr_l1 (many : Int) (v : Int) (s : List Int) (bad : Bool) (r : Ans) (n : Nat) (d : Nat) : ∀ (j : Nat) (out : List Int), j + d = n → n ≤ 2000 → out.length + d ≤ 4000 → Ev (fun k => peristyleref2_reader_runs.l0 k many (out ++ List.replicate d v) s bad) r → Ev (fun k => peristyleref2_reader_runs.l1 k many out v (n : Int) (j : Int) s bad) r := by
 induction d with
 | zero =>
  intro j out hj hn ho h
  refine Ev.step (fun k => by rw [peristyleref2_reader_runs.l1]) (ev_neg (by omega) ?_)
  simpa using h
 | succ d ih =>
  intro j out hj hn ho h
  refine Ev.step (fun k => by rw [peristyleref2_reader_runs.l1]) (ev_pos (by omega) (ev_pos (by omega) ?_))
  rw [w64 (by omega) (by omega)]
  refine ih (j + 1) (out ++ [v]) (by omega) hn (by simp; omega) ?_
  simpa [List.replicate_succ] using h
/-- One run more. -/
theorem qr_one {many : Nat} {out : List Int} {s : List Int} (hs : Byt s) (h : out.length < many) (hm : many ≤ 2000) {r : Ans} {v : Int} {n : Int} {s2 : List Int} {bad : Bool}
 (hv : v = (qnt s false).1) (hc : qct (qnt s false).2.1 (qnt s false).2.2 = (n, s2, bad))
 (hr : (n < 1 ∨ n > (many : Int) - out.length) ∧ r = ([], s2, true) ∨ 0 < n ∧ n ≤ (many : Int) - out.length ∧ Ev (fun k => peristyleref2_reader_runs.l0 k (many : Int) (out ++ List.replicate n.toNat v) s2 bad) r) :
 Ev (fun k => peristyleref2_reader_runs.l0 k (many : Int) out s false) r := by
 refine Ev.step (fun k => by rw [peristyleref2_reader_runs.l0]) (ev_pos (by omega) ?_)
 refine Ev.step (fun k => by rw [peristyleref2_reader_runs.j1]) (ev_pos (show (!false) = true from rfl) (Ev.bind (qnt_ev false hs) ?_))
 refine Ev.bind (qct_ev _ (qnt_byt hs)) ?_
 rw [hc, ← hv]
 dsimp only
 rw [w64 (n := (many : Int) - out.length) (by omega) (by omega)]
 have stop : Ev (fun k => peristyleref2_reader_runs.j2 k (many : Int) out v n true s2 bad) ([], s2, true) :=
  Ev.step (fun k => by rw [peristyleref2_reader_runs.j2]) (ev_pos rfl (ev_some _))
 rcases hr with ⟨h0, rfl⟩ | ⟨h1, h2, h3⟩
 ·by_cases hn : n < 1
  ·exact ev_pos hn stop
  ·refine ev_neg hn ?_
   rw [show decide (n > (many : Int) - out.length) = true by simp; omega]
   exact stop
 ·obtain ⟨q, rfl⟩ := Int.eq_ofNat_of_zero_le (show 0 ≤ n by omega)
  rw [Int.toNat_natCast] at h3
  refine ev_neg (by omega) ?_
  rw [show decide ((q : Int) > (many : Int) - out.length) = false by simp; omega]
  refine Ev.step (fun k => by rw [peristyleref2_reader_runs.j2]) (ev_neg (by simp) ?_)
  exact qr_l1 _ v s2 bad r q q 0 out (by omega) (by omega) (by omega) h3
theorem qr_total (many : Nat) (hm : many ≤ 2000) (n : Nat) : ∀ (out s : List Int) (bad : Bool), out.length ≤ many → many - out.length ≤ n → Byt s →
 ∃ r : Ans, Ev (fun k => peristyleref2_reader_runs.l0 k (many : Int) out s bad) r := by
 induction n with
 | zero => intro out s bad ho hn hs; exact ⟨_, qr_end s bad (by omega)⟩
 | succ n ih =>
  intro out s bad ho hn hs
  cases bad with
  | true => exact ⟨_, qr_bad _ _ _⟩
  | false =>
   by_cases h : out.length < many
   ·obtain ⟨c, s2, bad, hc⟩ : ∃ c s2 bad, qct (qnt s false).2.1 (qnt s false).2.2 = (c, s2, bad) := ⟨_, _, _, rfl⟩
    have hby : Byt s2 := by have := qct_byt (bad := (qnt s false).2.2) (qnt_byt (bad := false) hs); rw [hc] at this; exact this
    by_cases hx : c < 1 ∨ c > (many : Int) - out.length
    ·exact ⟨_, qr_one hs h hm rfl hc (Or.inl ⟨hx, rfl⟩)⟩
    ·have hx' := not_or.1 hx
     obtain ⟨r, hr⟩ := ih (out ++ List.replicate c.toNat (qnt s false).1) s2 bad (by simp; omega) (by simp; omega) hby
     exact ⟨r, qr_one hs h hm rfl hc (Or.inr ⟨by omega, by omega, hr⟩)⟩
   ·exact ⟨_, qr_end s false (by omega)⟩
theorem qr_rle (many : Nat) (hm : many ≤ 2000) (n : Nat) : ∀ (l out rest : List Int), l.length ≤ n → out.length + l.length = many → (∀ v ∈ l, -1000000000000000 ≤ v ∧ v ≤ 1000000000000000) → Byt (rle l ++ rest) →
 Ev (fun k => peristyleref2_reader_runs.l0 k (many : Int) out (rle l ++ rest) false) (out ++ l, rest, false) := by
 induction n with
 | zero =>
  intro l out rest hl ho hv hb
  have : l = [] := List.eq_nil_of_length_eq_zero (by omega)
  subst this
  rw [rle_nil, List.nil_append, List.append_nil]
  exact qr_end rest false (by simp at ho; omega)
 | succ n ih =>
  intro l out rest hl ho hv hb
  cases l with
  | nil =>
   rw [rle_nil, List.nil_append, List.append_nil]
   exact qr_end rest false (by simp at ho; omega)
  | cons b t =>
   have hm1 := hv b (List.mem_cons_self ..)
   have hle := hdI_le b t
   have ho' : out.length + (t.length + 1) = many := ho
   have hl' : t.length + 1 ≤ n + 1 := hl
   have e : rle (b :: t) ++ rest = num b ++ (cnt (hdI b t + 1) ++ (rle (t.drop (hdI b t)) ++ rest)) := by rw [rle_cons]; simp only [List.append_assoc]
   have hb2 : Byt (rle (t.drop (hdI b t)) ++ rest) := fun x hx => hb x (by rw [e]; exact List.mem_append_right _ (List.mem_append_right _ hx))
   have hnt := qnt_num (cnt (hdI b t + 1) ++ (rle (t.drop (hdI b t)) ++ rest)) (show -4000000000000000 ≤ b by omega) (show b ≤ 4000000000000000 by omega)
   rw [← e] at hnt
   have hct : qct (qnt (rle (b :: t) ++ rest) false).2.1 (qnt (rle (b :: t) ++ rest) false).2.2 = (((hdI b t + 1 : Nat) : Int), rle (t.drop (hdI b t)) ++ rest, false) := by
    rw [hnt]
    exact qct_cnt _ (by omega)
   refine qr_one hb (by omega) hm (v := b) (by rw [hnt]) hct (Or.inr ⟨by omega, by omega, ?_⟩)
   rw [Int.toNat_natCast]
   have := ih (t.drop (hdI b t)) (out ++ List.replicate (hdI b t + 1) b) rest (by simp; omega) (by simp; omega) (fun v h => hv v (List.mem_cons_of_mem _ (List.mem_of_mem_drop h))) hb2
   rw [List.append_assoc, List.replicate_succ, List.cons_append, hdI_rep] at this
   rw [List.replicate_succ]
   exact this

/-! ### distinct values -/
theorem q_j2bad (many n : Int) (l s : List Int) : Ev (fun k => peristyleref2_reader_dict.j2 k many n l s true) ([], s, true) :=
 Ev.step (fun k => by rw [peristyleref2_reader_dict.j2]) (ev_pos rfl (ev_some _))
theorem q_j2 {many n : Nat} (hm : many ≤ 2000) (h1 : 1 ≤ n) (hn : n ≤ 2000) {l s : List Int} (hs : Byt s) (hl : l.length = n) :
 (∃ r : Ans, Ev (fun k => peristyleref2_reader_dict.j2 k (many : Int) (n : Int) l s false) r) ∧
 (s.length = (many * Lib.bitLen (n - 1) + 7) / 8 → (∀ q ∈ ups s many (Lib.bitLen (n - 1)), q < (n : Int)) → Ev (fun k => peristyleref2_reader_dict.j2 k (many : Int) (n : Int) l s false) ((ups s many (Lib.bitLen (n - 1))).map (rd l), [], false)) := by
 have hw := bitLen11 hn
 have e1 : wrap64 ((n : Int) - 1) = (n : Int) - 1 := w64 (by omega) (by omega)
 have e2 : ((n : Int) - 1).toNat = n - 1 := by omega
 have hpk := q_ev hs false (m := many) (w := Lib.bitLen (n - 1)) hm (by omega)
 have head : ∀ a r : Ans, Ev (fun k => peristyleref2_reader_unpacked.f k s false (many : Int) ((Lib.bitLen (n - 1) : Nat) : Int)) a → Ev (fun k => peristyleref2_reader_picked.f k a.2.1 a.2.2 a.1 l) r → Ev (fun k => peristyleref2_reader_dict.j2 k (many : Int) (n : Int) l s false) r := by
  intro a r ha h
  refine Ev.step (fun k => by rw [peristyleref2_reader_dict.j2]) (ev_neg (by simp) ?_)
  rw [e1, rwidth_ev (by omega) (by omega), e2]
  exact Ev.bind (ev_some _) (Ev.bind ha (Ev.bind h (ev_some _)))
 by_cases hlen : Lib.bitLen (n - 1) ≤ 60 ∧ (many * Lib.bitLen (n - 1) + 7) / 8 ≤ s.length
 ·rw [if_pos hlen] at hpk
  have hul := ups_len s many (Lib.bitLen (n - 1))
  obtain ⟨⟨r, hr⟩, h2⟩ := p_ev (of := l) (s.drop ((many * Lib.bitLen (n - 1) + 7) / 8)) false (u := ups s many (Lib.bitLen (n - 1))) (by omega) (fun q hq => (ups_range q hq).1)
  refine ⟨⟨r, head _ r hpk hr⟩, fun he hall => ?_⟩
  have := head _ _ hpk (h2 (by rw [hl]; exact hall))
  rwa [List.drop_eq_nil_of_le (by omega)] at this
 ·rw [if_neg hlen] at hpk
  obtain ⟨⟨r, hr⟩, _⟩ := p_ev (of := l) s true (u := []) (by simp) (by simp)
  exact ⟨⟨r, head _ r hpk hr⟩, fun he => absurd ⟨by omega, by omega⟩ hlen⟩
theorem qd_l0bad (many n : Int) (l s : List Int) : Ev (fun k => peristyleref2_reader_dict.l0 k many n l s true) ([], s, true) := by
 refine Ev.step (fun k => by rw [peristyleref2_reader_dict.l0]) ?_
 by_cases h : (l.length : Int) < n
 ·exact ev_pos h (ev_pos rfl (q_j2bad _ _ _ _))
 ·exact ev_neg h (q_j2bad _ _ _ _)
theorem qd_one {many n : Int} {l s : List Int} (hs : Byt s) (h : (l.length : Int) < n) (h1 : 0 < l.length) (hn : n ≤ 2000) {r : Ans} (hr : Ev (fun k => peristyleref2_reader_dict.l0 k many n (l ++ [wrap64 (l.getD (l.length - 1) 0 + (qct s false).1)]) (qct s false).2.1 (qct s false).2.2) r) :
 Ev (fun k => peristyleref2_reader_dict.l0 k many n l s false) r := by
 have e1 : wrap64 ((l.length : Int) - 1) = ((l.length - 1 : Nat) : Int) := by rw [w64 (by omega) (by omega)]; omega
 refine Ev.step (fun k => by rw [peristyleref2_reader_dict.l0]) (ev_pos h (ev_neg (by simp) ?_))
 rw [e1, rdD]
 exact ev_pos (by omega) (ev_pos (by omega) (Ev.bind (qct_ev false hs) (ev_pos (by omega) hr)))
theorem qd_total {many n : Nat} (hm : many ≤ 2000) (hn : n ≤ 2000) (d : Nat) : ∀ (l s : List Int) (bad : Bool), 0 < l.length → l.length + d = n → Byt s → ∃ r : Ans, Ev (fun k => peristyleref2_reader_dict.l0 k (many : Int) (n : Int) l s bad) r := by
 induction d with
 | zero =>
  intro l s bad h0 hl hs
  cases bad with
  | true => exact ⟨_, qd_l0bad _ _ _ _⟩
  | false =>
   obtain ⟨r, hr⟩ := (q_j2 hm (n := n) (by omega) hn hs (l := l) (by omega)).1
   exact ⟨r, Ev.step (fun k => by rw [peristyleref2_reader_dict.l0]) (ev_neg (by omega) hr)⟩
 | succ d ih =>
  intro l s bad h0 hl hs
  cases bad with
  | true => exact ⟨_, qd_l0bad _ _ _ _⟩
  | false =>
   obtain ⟨r, hr⟩ := ih (l ++ [wrap64 (l.getD (l.length - 1) 0 + (qct s false).1)]) (qct s false).2.1 (qct s false).2.2 (by simp) (by simp; omega) (qct_byt hs)
   exact ⟨r, qd_one hs (by omega) h0 (by omega) hr⟩
theorem qd_dif {many n : Nat} (hn : n ≤ 2000) (d : Nat) (rest : List Int) (r : Ans) : ∀ (t pre : List Int) (p : Int), pre.length + 1 + t.length = n → t.length ≤ d → (p :: t).Pairwise (· < ·) → (∀ v ∈ p :: t, -1000000000000000 ≤ v ∧ v ≤ 1000000000000000) → Byt (dif p t ++ rest) →
 Ev (fun k => peristyleref2_reader_dict.j2 k (many : Int) (n : Int) (pre ++ p :: t) rest false) r →
 Ev (fun k => peristyleref2_reader_dict.l0 k (many : Int) (n : Int) (pre ++ [p]) (dif p t ++ rest) false) r := by
 induction d with
 | zero =>
  intro t pre p hl ht hs hv hb h
  have : t = [] := List.eq_nil_of_length_eq_zero (by omega)
  subst this
  refine Ev.step (fun k => by rw [peristyleref2_reader_dict.l0]) (ev_neg (by simp; simp at hl; omega) ?_)
  simpa [dif] using h
 | succ d ih =>
  intro t pre p hl ht hs hv hb h
  cases t with
  | nil =>
   refine Ev.step (fun k => by rw [peristyleref2_reader_dict.l0]) (ev_neg (by simp; simp at hl; omega) ?_)
   simpa [dif] using h
  | cons b t =>
   have hl' : pre.length + 1 + (t.length + 1) = n := hl
   have ht' : t.length + 1 ≤ d + 1 := ht
   have hp := hv p (List.mem_cons_self ..)
   have hb1 := hv b (by simp)
   have hlt : p < b := by
    have := (List.pairwise_cons.1 hs).1 b (List.mem_cons_self ..)
    exact this
   have e : dif p (b :: t) ++ rest = cnt (b - p).toNat ++ (dif b t ++ rest) := by rw [dif, List.append_assoc]
   have hct := qct_cnt (n := (b - p).toNat) (dif b t ++ rest) (by omega)
   rw [← e] at hct
   refine qd_one hb (by simp; omega) (by simp) (by omega) ?_
   have hlast : (pre ++ [p]).getD ((pre ++ [p]).length - 1) 0 = p := by simp [List.getD]
   rw [hct, hlast]
   dsimp only
   rw [show wrap64 (p + ((b - p).toNat : Int)) = b by rw [w64 (by omega) (by omega)]; omega]
   refine ih t (pre ++ [p]) b (by simp; omega) (by omega) (List.pairwise_cons.1 hs).2 (fun v hv' => hv v (List.mem_cons_of_mem _ hv')) (fun x hx => hb x (by rw [e]; exact List.mem_append_right _ hx)) ?_
   simpa using h
theorem qdict_total {many : Nat} (hm : many ≤ 2000) {s : List Int} (hs : Byt s) (bad : Bool) : ∃ r : Ans, Ev (fun k => peristyleref2_reader_dict.f k s bad (many : Int)) r := by
 have hv := qct_val s bad
 have stop : Ev (fun k => peristyleref2_reader_dict.j0 k (many : Int) (qct s bad).1 true (qct s bad).2.1 (qct s bad).2.2) ([], (qct s bad).2.1, true) :=
  Ev.step (fun k => by rw [peristyleref2_reader_dict.j0]) (ev_pos rfl (ev_some _))
 have head : ∀ r, Ev (fun k => if (qct s bad).2.2 = true then (peristyleref2_reader_dict.j0 k (many : Int) (qct s bad).1 true (qct s bad).2.1 (qct s bad).2.2) else (if (qct s bad).1 < 1 then (peristyleref2_reader_dict.j0 k (many : Int) (qct s bad).1 true (qct s bad).2.1 (qct s bad).2.2) else (peristyleref2_reader_dict.j0 k (many : Int) (qct s bad).1 (decide ((qct s bad).1 > (many : Int))) (qct s bad).2.1 (qct s bad).2.2))) r → Ev (fun k => peristyleref2_reader_dict.f k s bad (many : Int)) r := by
  intro r h
  unfold peristyleref2_reader_dict.f
  exact Ev.bind (qct_ev bad hs) h
 by_cases hb : (qct s bad).2.2 = true
 ·exact ⟨_, head _ (ev_pos hb stop)⟩
 ·by_cases h1 : (qct s bad).1 < 1
  ·exact ⟨_, head _ (ev_neg hb (ev_pos h1 stop))⟩
  ·by_cases h2 : (qct s bad).1 > (many : Int)
   ·rw [show decide ((qct s bad).1 > (many : Int)) = true by simpa using h2] at head
    exact ⟨_, head _ (ev_neg hb (ev_neg h1 stop))⟩
   ·rw [show decide ((qct s bad).1 > (many : Int)) = false by simpa using h2] at head
    obtain ⟨n, hn⟩ := Int.eq_ofNat_of_zero_le hv.1
    obtain ⟨r, hr⟩ := qd_total hm (n := n) (by omega) (n - 1) [(qnt (qct s bad).2.1 (qct s bad).2.2).1] (qnt (qct s bad).2.1 (qct s bad).2.2).2.1 (qnt (qct s bad).2.1 (qct s bad).2.2).2.2 (by simp) (by simp; omega) (qnt_byt (qct_byt hs))
    refine ⟨r, head _ (ev_neg hb (ev_neg h1 (Ev.step (fun k => by rw [peristyleref2_reader_dict.j0]) (ev_neg (by simp) (Ev.bind (qnt_ev _ (qct_byt hs)) ?_)))))⟩
    rw [hn]
    exact hr
theorem qdict_round {l : List Int} (h : Okv l) (hne : l ≠ []) (hb : Byt (dict l)) : Ev (fun k => peristyleref2_reader_dict.f k (dict l) false (l.length : Int)) (l, [], false) := by
 have hn := h.1
 have hs := dst_sorted l
 have hdl := dst_len l
 have hdp := dst_ne hne
 have hdv : ∀ v ∈ dst l, -1000000000000000 ≤ v ∧ v ≤ 1000000000000000 := fun v hv => h.2 v ((hs.2 v).1 hv)
 have hcons : dst l = (dst l).getD 0 0 :: (dst l).drop 1 := by
  have := getD_drop_head (d := 0) hdp
  rwa [List.drop_zero] at this
 have h0v := hdv _ (mem_getD hdp)
 have e : dict l = cnt (dst l).length ++ (num ((dst l).getD 0 0) ++ (dif ((dst l).getD 0 0) ((dst l).drop 1) ++ pb (allbits (pls l) (Lib.bitLen ((dst l).length - 1))))) := by unfold dict; simp only [List.append_assoc]
 have hlt := qct_cnt (n := (dst l).length) (num ((dst l).getD 0 0) ++ (dif ((dst l).getD 0 0) ((dst l).drop 1) ++ pb (allbits (pls l) (Lib.bitLen ((dst l).length - 1))))) (by omega)
 rw [← e] at hlt
 have hnt := qnt_num (dif ((dst l).getD 0 0) ((dst l).drop 1) ++ pb (allbits (pls l) (Lib.bitLen ((dst l).length - 1)))) (v := (dst l).getD 0 0) (by omega) (by omega)
 have hb1 : Byt (num ((dst l).getD 0 0) ++ (dif ((dst l).getD 0 0) ((dst l).drop 1) ++ pb (allbits (pls l) (Lib.bitLen ((dst l).length - 1))))) := fun x hx => hb x (by rw [e]; exact List.mem_append_right _ hx)
 have hb2 : Byt (dif ((dst l).getD 0 0) ((dst l).drop 1) ++ pb (allbits (pls l) (Lib.bitLen ((dst l).length - 1)))) := fun x hx => hb1 x (List.mem_append_right _ hx)
 unfold peristyleref2_reader_dict.f
 refine Ev.bind (qct_ev false hb) ?_
 rw [hlt]
 refine ev_neg (by simp) (ev_neg (show ¬ ((dst l).length : Int) < 1 by omega) ?_)
 dsimp only
 rw [show decide (((dst l).length : Int) > (l.length : Int)) = false by simp; omega]
 refine Ev.step (fun k => by rw [peristyleref2_reader_dict.j0]) (ev_neg (by simp) (Ev.bind (qnt_ev false hb1) ?_))
 rw [hnt]
 dsimp only
 have hbl := bitLen_lt ((dst l).length - 1) (by omega)
 have hplr : ∀ v ∈ pls l, 0 ≤ v ∧ v < 2 ^ Lib.bitLen ((dst l).length - 1) := by
  intro v hv
  have h1 := pls_range v hv
  have h2 : (((dst l).length - 1 : Nat) : Int) < (2 : Int) ^ Lib.bitLen ((dst l).length - 1) := by exact_mod_cast hbl
  exact ⟨h1.1, by omega⟩
 have hups := ups_pb hplr
 rw [pls_len] at hups
 refine qd_dif (many := l.length) (n := (dst l).length) (by omega) _ _ _ ((dst l).drop 1) [] ((dst l).getD 0 0) (by simp; omega) (Nat.le_refl _) (by rw [← hcons]; exact hs.1) (by rw [← hcons]; exact hdv) hb2 ?_
 rw [List.nil_append, ← hcons]
 have := (q_j2 (many := l.length) hn (n := (dst l).length) (by omega) (by omega) (l := dst l) (s := pb (allbits (pls l) (Lib.bitLen ((dst l).length - 1)))) (fun x hx => hb2 x (List.mem_append_right _ hx)) rfl).2 (by rw [pb_len, allbits_len, pls_len]) ?_
 ·rw [hups] at this
  have hmap : (pls l).map (rd (dst l)) = l := by
   unfold pls
   rw [List.map_map]
   have : ∀ v ∈ l, (rd (dst l) ∘ fun v => (pl (dst l) v : Int)) v = v := by
    intro v hv
    simp only [Function.comp]
    rw [rdD, pl_get ((hs.2 v).2 hv)]
   rw [List.map_congr_left this]
   simp
  rw [hmap] at this
  exact this
 ·rw [hups]
  exact fun q hq => (pls_range q hq).2

/-! ### plain values, differences, values by the least one -/
theorem q0_total {many : Nat} (hm : many ≤ 2000) (n : Nat) : ∀ (out s : List Int) (bad : Bool), out.length ≤ many → many - out.length ≤ n → Byt s → ∃ r : Ans, Ev (fun k => peristyleref2_reader_values.l0 k (many : Int) out s bad) r := by
 induction n with
 | zero => intro out s bad ho hn hs; exact ⟨_, Ev.step (fun k => by rw [peristyleref2_reader_values.l0]) (ev_neg (by omega) (ev_some _))⟩
 | succ n ih =>
  intro out s bad ho hn hs
  by_cases h : out.length < many
  ·cases bad with
   | true => exact ⟨_, Ev.step (fun k => by rw [peristyleref2_reader_values.l0]) (ev_pos (by omega) (ev_pos rfl (ev_some _)))⟩
   | false =>
    obtain ⟨r, hr⟩ := ih (out ++ [(qnt s false).1]) (qnt s false).2.1 (qnt s false).2.2 (by simp; omega) (by simp; omega) (qnt_byt hs)
    exact ⟨r, Ev.step (fun k => by rw [peristyleref2_reader_values.l0]) (ev_pos (by omega) (ev_neg (by simp) (Ev.bind (qnt_ev false hs) (ev_pos (show out.length < 17592186044416 by omega) hr))))⟩
  ·exact ⟨_, Ev.step (fun k => by rw [peristyleref2_reader_values.l0]) (ev_neg (by omega) (ev_some _))⟩
theorem q2_total {many : Nat} (hm : many ≤ 2000) (n : Nat) : ∀ (out s : List Int) (p : Int) (bad : Bool), out.length ≤ many → many - out.length ≤ n → Byt s → ∃ r : Ans, Ev (fun k => peristyleref2_reader_values.l2 k (many : Int) out p s bad) r := by
 induction n with
 | zero => intro out s p bad ho hn hs; exact ⟨_, Ev.step (fun k => by rw [peristyleref2_reader_values.l2]) (ev_neg (by omega) (ev_some _))⟩
 | succ n ih =>
  intro out s p bad ho hn hs
  by_cases h : out.length < many
  ·cases bad with
   | true => exact ⟨_, Ev.step (fun k => by rw [peristyleref2_reader_values.l2]) (ev_pos (by omega) (ev_pos rfl (ev_some _)))⟩
   | false =>
    obtain ⟨r, hr⟩ := ih (out ++ [wrap64 (p + (qnt s false).1)]) (qnt s false).2.1 (wrap64 (p + (qnt s false).1)) (qnt s false).2.2 (by simp; omega) (by simp; omega) (qnt_byt hs)
    exact ⟨r, Ev.step (fun k => by rw [peristyleref2_reader_values.l2]) (ev_pos (by omega) (ev_neg (by simp) (Ev.bind (qnt_ev false hs) (ev_pos (show out.length < 17592186044416 by omega) hr))))⟩
  ·exact ⟨_, Ev.step (fun k => by rw [peristyleref2_reader_values.l2]) (ev_neg (by omega) (ev_some _))⟩
theorem q0_nums (rest : List Int) : ∀ (l out : List Int), out.length + l.length ≤ 2000 → (∀ v ∈ l, -1000000000000000 ≤ v ∧ v ≤ 1000000000000000) → Byt (nums l ++ rest) →
 Ev (fun k => peristyleref2_reader_values.l0 k ((out.length + l.length : Nat) : Int) out (nums l ++ rest) false) (out ++ l, rest, false)
 | [], out, hl, hv, hb => by
  rw [show nums [] = [] from rfl, List.nil_append, List.append_nil]
  exact Ev.step (fun k => by rw [peristyleref2_reader_values.l0]) (ev_neg (by simp) (ev_some _))
 | v :: l, out, hl, hv, hb => by
  have hm := hv v (List.mem_cons_self ..)
  have hl' : out.length + (l.length + 1) ≤ 2000 := hl
  have e : nums (v :: l) ++ rest = num v ++ (nums l ++ rest) := by simp [nums, List.append_assoc]
  have hb2 : Byt (nums l ++ rest) := fun x hx => hb x (by rw [e]; exact List.mem_append_right _ hx)
  have hnt := qnt_num (nums l ++ rest) (show -4000000000000000 ≤ v by omega) (show v ≤ 4000000000000000 by omega)
  rw [← e] at hnt
  have ih := q0_nums rest l (out ++ [v]) (by simp; omega) (fun x hx => hv x (List.mem_cons_of_mem _ hx)) hb2
  rw [List.length_append, List.length_singleton, show out.length + 1 + l.length = out.length + (l.length + 1) by omega, List.append_assoc] at ih
  refine Ev.step (fun k => by rw [peristyleref2_reader_values.l0]) (ev_pos (by simp; omega) (ev_neg (by simp) (Ev.bind (qnt_ev false hb) (ev_pos (show out.length < 17592186044416 by omega) ?_))))
  rw [hnt]
  exact ih
theorem q2_dlt (rest : List Int) : ∀ (l out : List Int) (p : Int), out.length + l.length ≤ 2000 → (-1000000000000000 ≤ p ∧ p ≤ 1000000000000000) → (∀ v ∈ l, -1000000000000000 ≤ v ∧ v ≤ 1000000000000000) → Byt (dlt p l ++ rest) →
 Ev (fun k => peristyleref2_reader_values.l2 k ((out.length + l.length : Nat) : Int) out p (dlt p l ++ rest) false) (out ++ l, rest, false)
 | [], out, p, hl, hp, hv, hb => by
  rw [show dlt p [] = [] from rfl, List.nil_append, List.append_nil]
  exact Ev.step (fun k => by rw [peristyleref2_reader_values.l2]) (ev_neg (by simp) (ev_some _))
 | v :: l, out, p, hl, hp, hv, hb => by
  have hm := hv v (List.mem_cons_self ..)
  have hl' : out.length + (l.length + 1) ≤ 2000 := hl
  have e : dlt p (v :: l) ++ rest = num (v - p) ++ (dlt v l ++ rest) := by simp [dlt, List.append_assoc]
  have hb2 : Byt (dlt v l ++ rest) := fun x hx => hb x (by rw [e]; exact List.mem_append_right _ hx)
  have hnt := qnt_num (dlt v l ++ rest) (show -4000000000000000 ≤ v - p by omega) (show v - p ≤ 4000000000000000 by omega)
  rw [← e] at hnt
  have ih := q2_dlt rest l (out ++ [v]) v (by simp; omega) hm (fun x hx => hv x (List.mem_cons_of_mem _ hx)) hb2
  rw [List.length_append, List.length_singleton, show out.length + 1 + l.length = out.length + (l.length + 1) by omega, List.append_assoc] at ih
  refine Ev.step (fun k => by rw [peristyleref2_reader_values.l2]) (ev_pos (by simp; omega) (ev_neg (by simp) (Ev.bind (qnt_ev false hb) (ev_pos (show out.length < 17592186044416 by omega) ?_))))
  rw [hnt]
  dsimp only
  rw [show wrap64 (p + (v - p)) = v by rw [w64 (by omega) (by omega)]; omega]
  exact ih
theorem q1_ev (least : Int) (s : List Int) (bad : Bool) (u : List Int) (hu : u.length ≤ 2000) (d : Nat) : ∀ (i : Nat) (out : List Int), out.length ≤ 4000 - (u.length - i) → i ≤ u.length → u.length - i ≤ d →
 Ev (fun k => peristyleref2_reader_values.l1 k out least u (u.length : Int) (i : Int) s bad) (out ++ (u.drop i).map (fun v => wrap64 (least + v)), s, bad) := by
 have fin : ∀ (i : Nat) (out : List Int), ¬ i < u.length → Ev (fun k => peristyleref2_reader_values.l1 k out least u (u.length : Int) (i : Int) s bad) (out ++ (u.drop i).map (fun v => wrap64 (least + v)), s, bad) := by
  intro i out h
  refine Ev.step (fun k => by rw [peristyleref2_reader_values.l1]) (ev_neg (by omega) ?_)
  rw [List.drop_eq_nil_of_le (by omega)]
  exact ev_eq (ev_some _) (by simp)
 induction d with
 | zero => intro i out ho hi hd; exact fin i out (by omega)
 | succ d ih =>
  intro i out ho hi hd
  by_cases hlt : i < u.length
  ·have := ih (i + 1) (out ++ [wrap64 (least + u.getD i 0)]) (by simp; omega) (by omega) (by omega)
   refine Ev.step (fun k => by rw [peristyleref2_reader_values.l1]) ?_
   rw [rdD, w64 (n := (i : Int) + 1) (by omega) (by omega)]
   refine ev_pos (by omega) (ev_pos (by omega) (ev_pos (by omega) (ev_pos (by omega) (ev_eq this ?_))))
   rw [getD_drop_head (d := 0) hlt, List.map_cons, List.append_assoc]
   rfl
  ·exact fin i out hlt

/-! ### all codes -/
theorem qvalues_total (c : Int) {many : Nat} (hm : many ≤ 2000) {s : List Int} (hs : Byt s) (bad : Bool) : ∃ r : Ans, Ev (fun k => peristyleref2_reader_values.f k s bad c (many : Int)) r := by
 unfold peristyleref2_reader_values.f
 by_cases h1 : c = 1
 ·obtain ⟨r, hr⟩ := q0_total hm many [] s bad (by simp) (by simp) hs
  exact ⟨r, ev_pos h1 hr⟩
 by_cases h2 : c = 2
 ·obtain ⟨r, hr⟩ := qr_total many hm many [] s bad (by simp) (by simp) hs
  exact ⟨_, ev_neg h1 (ev_pos h2 (Ev.bind (show Ev (fun k => peristyleref2_reader_runs.f k s bad (many : Int)) r from hr) (ev_some _)))⟩
 by_cases h3 : c = 3
 ·obtain ⟨r, hr⟩ := qdict_total hm hs bad
  exact ⟨_, ev_neg h1 (ev_neg h2 (ev_pos h3 (Ev.bind hr (ev_some _))))⟩
 by_cases h4 : c = 4
 ·have hb := qnt_byt (bad := bad) hs
  have hh := head0 hb
  obtain ⟨w, hw⟩ := Int.eq_ofNat_of_zero_le hh.1
  have hpk := q_ev hb.tail ((qnt s bad).2.2 || (qnt s bad).2.1.isEmpty) (m := many) (w := w) hm (by omega)
  obtain ⟨u, hu⟩ : ∃ u : Ans, u = (if w ≤ 60 ∧ (many * w + 7) / 8 ≤ (qnt s bad).2.1.tail.length then (ups (qnt s bad).2.1.tail many w, (qnt s bad).2.1.tail.drop ((many * w + 7) / 8), ((qnt s bad).2.2 || (qnt s bad).2.1.isEmpty)) else ([], (qnt s bad).2.1.tail, true)) := ⟨_, rfl⟩
  rw [← hu] at hpk
  have hul : u.1.length ≤ 2000 := by
   rw [hu]
   split
   ·rw [ups_len]; exact hm
   ·simp
  have h := q1_ev (qnt s bad).1 u.2.1 u.2.2 u.1 hul _ 0 [] (by simp <;> omega) (by omega) (Nat.le_refl _)
  refine ⟨([] ++ (u.1.drop 0).map (fun v => wrap64 ((qnt s bad).1 + v)), u.2.1, u.2.2), ev_neg h1 (ev_neg h2 (ev_neg h3 (ev_pos h4 (Ev.bind (qnt_ev bad hs) ?_))))⟩
  rw [rbyteB _ _ hb]
  refine Ev.bind (ev_some _) ?_
  dsimp only
  rw [hw]
  exact Ev.bind hpk h
 by_cases h5 : c = 5
 ·obtain ⟨r, hr⟩ := q2_total hm many [] s 0 bad (by simp) (by simp) hs
  exact ⟨r, ev_neg h1 (ev_neg h2 (ev_neg h3 (ev_neg h4 (ev_pos h5 hr))))⟩
 exact ⟨_, ev_neg h1 (ev_neg h2 (ev_neg h3 (ev_neg h4 (ev_neg h5 (ev_some _)))))⟩
theorem qvalues_round {c : Nat} (hc : 1 ≤ c ∧ c ≤ 5) {l : List Int} (h : Okv l) (hne : l ≠ []) (hb : Byt (body c l)) : Ev (fun k => peristyleref2_reader_values.f k (body c l) false (c : Int) (l.length : Int)) (l, [], false) := by
 have hn := h.1
 unfold peristyleref2_reader_values.f
 by_cases h1 : c = 1
 ·subst h1
  have e : body 1 l = nums l := by simp [body]
  rw [e] at hb ⊢
  have hv := q0_nums [] l [] (by simpa using hn) h.2 (by simpa using hb)
  rw [show (([] : List Int).length + l.length) = l.length by simp, List.append_nil, List.nil_append] at hv
  exact ev_pos rfl hv
 refine ev_neg (by omega) ?_
 by_cases h2 : c = 2
 ·subst h2
  have e : body 2 l = rle l := by simp [body]
  rw [e] at hb ⊢
  have hv := qr_rle l.length hn _ l [] [] (Nat.le_refl _) (by simp) h.2 (by simpa using hb)
  rw [List.append_nil, List.nil_append] at hv
  exact ev_pos rfl (Ev.bind (show Ev (fun k => peristyleref2_reader_runs.f k (rle l) false (l.length : Int)) (l, [], false) from hv) (ev_some _))
 refine ev_neg (by omega) ?_
 by_cases h3 : c = 3
 ·subst h3
  have e : body 3 l = dict l := by simp [body]
  rw [e] at hb ⊢
  exact ev_pos rfl (Ev.bind (qdict_round h hne hb) (ev_some _))
 refine ev_neg (by omega) ?_
 by_cases h4 : c = 4
 ·subst h4
  have e : body 4 l = num (Lib.minOf l) ++ ((fw l : Int) :: pb (allbits (fs l) (fw l))) := by simp [body, frame]
  rw [e] at hb ⊢
  have hm := h.2 _ (minOf_le l hne).1
  have hx := h.2 _ (maxOf_ge l hne).1
  have hmx := (minOf_le l hne).2 _ (maxOf_ge l hne).1
  have hfw := fw_le h hne
  have hnt := qnt_num (((fw l : Int) :: pb (allbits (fs l) (fw l)))) (v := Lib.minOf l) (by omega) (by omega)
  have hb2 : Byt ((fw l : Int) :: pb (allbits (fs l) (fw l))) := fun x hx => hb x (List.mem_append_right _ hx)
  have hb3 : Byt (pb (allbits (fs l) (fw l))) := fun x hx => hb2 x (List.mem_cons_of_mem _ hx)
  have hfl : (fs l).length = l.length := by simp [fs]
  have hbl := bitLen_lt (Lib.maxOf l - Lib.minOf l).toNat (by omega)
  have hfr : ∀ v ∈ fs l, 0 ≤ v ∧ v < 2 ^ fw l := by
   intro v hv
   have h1 := fs_range h hne v hv
   have h2 : ((Lib.maxOf l - Lib.minOf l).toNat : Int) < (2 : Int) ^ fw l := by exact_mod_cast hbl
   exact ⟨h1.1, by omega⟩
  have hups := ups_pb hfr
  rw [hfl] at hups
  have hT : (pb (allbits (fs l) (fw l))).length = (l.length * fw l + 7) / 8 := by rw [pb_len, allbits_len, hfl]
  have hpk := q_ev hb3 false (m := l.length) (w := fw l) hn (by omega)
  rw [if_pos ⟨by omega, by omega⟩, hups, List.drop_eq_nil_of_le (by omega)] at hpk
  refine ev_pos rfl (Ev.bind (qnt_ev false hb) ?_)
  rw [hnt]
  dsimp only
  rw [rbyteB _ false hb2]
  refine Ev.bind (ev_some _) (Ev.bind hpk (ev_eq (q1_ev (Lib.minOf l) [] false (fs l) (by omega) _ 0 [] (by simp <;> omega) (by omega) (Nat.le_refl _)) ?_))
  have hmap : (fs l).map (fun v => wrap64 (Lib.minOf l + v)) = l := by
   unfold fs
   rw [List.map_map]
   have : ∀ v ∈ l, ((fun v => wrap64 (Lib.minOf l + v)) ∘ fun v => v - Lib.minOf l) v = v := by
    intro v hv
    have := h.2 v hv
    simp only [Function.comp]
    rw [w64 (by omega) (by omega)]
    omega
   rw [List.map_congr_left this]
   simp
  rw [List.nil_append, List.drop_zero, hmap]
 refine ev_neg (by omega) ?_
 have h5 : c = 5 := by omega
 subst h5
 have e : body 5 l = dlt 0 l := by simp [body]
 rw [e] at hb ⊢
 have hv := q2_dlt [] l [] 0 (by simpa using hn) (by omega) h.2 (by simpa using hb)
 rw [show (([] : List Int).length + l.length) = l.length by simp, List.append_nil, List.nil_append] at hv
 exact ev_pos rfl hv
end Go.Proofs.Ythhdihnaicggiaa.I
