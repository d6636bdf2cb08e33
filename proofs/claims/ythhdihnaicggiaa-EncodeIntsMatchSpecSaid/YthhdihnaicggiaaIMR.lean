/- What the reference's writers of numbers, bits and values leave: the same as the program's. No conditions beyond those in each theorem. -/
import Derived.Test.YthhdihnaicggiaaIM7
namespace Go.Proofs.Ythhdihnaicggiaa.I
open Go.RowKit Go.Proofs.YthhdihnaicggiaaW.PrintWords Go.Proofs.YthhdihnaicggiaaW.PrintLast Go.Proofs.YthhdihnaicggiaaW.PrintMore
set_option linter.unusedVariables false
set_option linter.unusedSimpArgs false

theorem rnumber_ev {v : Int} (h0 : -4000000000000000 ≤ v) (h1 : v ≤ 4000000000000000) : Ev (fun k => peristyleref2_number.f k v) (num v) := by
 unfold peristyleref2_number.f
 have hz := zig_lt h0 h1
 by_cases h : v < 0
 ·refine ev_pos h (Ev.bind ?_ (ev_some _))
  have e : wrap64 (wrap64 (-2 * v) - 1) = ((zig v : Nat) : Int) := by
   rw [zig_neg h, w64 (n := -2 * v) (by omega) (by omega), w64 (by omega) (by omega)]
   omega
  rw [e]
  exact rcount_ev (by omega)
 ·refine ev_neg h (Ev.bind ?_ (ev_some _))
  have e : wrap64 (2 * v) = ((zig v : Nat) : Int) := by
   rw [zig_pos h, w64 (by omega) (by omega)]
  rw [e]
  exact rcount_ev (by omega)

/-! ### the reference's -/
theorem getD_ne {bs : List Int} {b : Int} {q : Nat} (h : q ≠ bs.length) : (bs ++ [b]).getD q 0 = bs.getD q 0 := by
 by_cases h1 : q < bs.length
 ·exact getD_snoc h1
 ·rw [getD_out (by simp; omega), getD_out (by omega)]
theorem byteN_ne {bs : List Int} {b : Int} {i : Nat} (h : i ≠ bs.length / 8) : byteN (bs ++ [b]) i = byteN bs i := by
 unfold byteN
 rw [getD_ne (by omega), getD_ne (by omega), getD_ne (by omega), getD_ne (by omega), getD_ne (by omega), getD_ne (by omega), getD_ne (by omega), getD_ne (by omega)]
def pbT (T : Nat) (bs : List Int) : List Int := (List.range T).map (byteN bs)
theorem pbT_len (T : Nat) (bs : List Int) : (pbT T bs).length = T := by simp [pbT]
theorem pbT_get {T : Nat} {bs : List Int} {i : Nat} (h : i < T) : (pbT T bs)[i]? = some (byteN bs i) := by simp [pbT, h]
theorem pbT_snoc {T : Nat} {bs : List Int} {b : Int} (h : bs.length / 8 < T) : pbT T (bs ++ [b]) = (pbT T bs).set (bs.length / 8) (byteN bs (bs.length / 8) + b * 2 ^ (7 - bs.length % 8)) := by
 refine List.ext_getElem? fun i => ?_
 rw [List.getElem?_set]
 by_cases hi : bs.length / 8 = i
 ·subst hi
  rw [if_pos rfl, if_pos (by rw [pbT_len]; exact h), pbT_get h, byteN_new]
 ·rw [if_neg hi]
  by_cases hlt : i < T
  ·rw [pbT_get hlt, pbT_get hlt, byteN_ne (fun h => hi h.symm)]
  ·rw [List.getElem?_eq_none (by rw [pbT_len]; omega), List.getElem?_eq_none (by rw [pbT_len]; omega)]
theorem pbT_zero {T : Nat} {bs : List Int} : pbT T (bs ++ [0]) = pbT T bs := by
 unfold pbT
 refine List.map_congr_left fun i _ => ?_
 by_cases h : i = bs.length / 8
 ·subst h; rw [byteN_new]; omega
 ·exact byteN_ne h
theorem rpacked_l1 (T : Nat) (hT : T ≤ 1000000000) (w : Int) (v : Int) (v0 : 0 ≤ v) (v1 : v < 9223372036854775808) (x17 : List Int) (x18 x19 : Int) (r : List Int) (c : Nat) :
 ∀ bs : List Int, (∀ b ∈ bs, 0 ≤ b ∧ b ≤ 1) → bs.length + c ≤ 8 * T → c ≤ 64 →
 Ev (fun k => peristyleref2_packed.l0 k w (pbT T (bs ++ bitsOf v c)) ((bs.length + c : Nat) : Int) x17 x18 (wrap64 (x19 + 1))) r →
 Ev (fun k => peristyleref2_packed.l1 k w (pbT T bs) (bs.length : Int) v ((c : Int) - 1) x17 x18 x19) r := by
 induction c with
 | zero =>
  intro bs hb hbl hc h
  refine Ev.step (fun k => by rw [peristyleref2_packed.l1]) (ev_neg (by omega) ?_)
  simpa [bitsOf] using h
 | succ c ih =>
  intro bs hb hbl hc h
  have e1 : ((c + 1 : Nat) : Int) - 1 = (c : Int) := by omega
  have hbit := bit_of v0 v1 (show c ≤ 64 by omega)
  have b0 : 0 ≤ v / 2 ^ c % 2 := by omega
  have b1 : v / 2 ^ c % 2 ≤ 1 := by omega
  have hr : bs.length % 8 < 8 := Nat.mod_lt _ (by omega)
  have next : Ev (fun k => peristyleref2_packed.l1 k w (pbT T (bs ++ [v / 2 ^ c % 2])) (wrap64 ((bs.length : Int) + 1)) v (wrap64 ((c : Int) - 1)) x17 x18 x19) r := by
   rw [w64 (n := (bs.length : Int) + 1) (by omega) (by omega), w64 (n := (c : Int) - 1) (by omega) (by omega)]
   have := ih (bs ++ [v / 2 ^ c % 2]) (allbits_bit hb b0 b1) (by simp; omega) (by omega) ?_
   ·rw [List.length_append, List.length_singleton] at this
    exact this
   ·rw [List.append_assoc, List.length_append, List.length_singleton]
    rw [show bs.length + 1 + c = bs.length + (c + 1) by omega]
    exact h
  have ed : wrap64 (Int.tdiv (bs.length : Int) 8) = ((bs.length / 8 : Nat) : Int) := by
   rw [Int.tdiv_eq_ediv_of_nonneg (by omega), w64 (by omega) (by omega)]
   omega
  refine Ev.step (fun k => by rw [peristyleref2_packed.l1]) ?_
  rw [e1, hbit, ed]
  refine ev_pos (by omega) (ev_pos (by omega) ?_)
  by_cases hone : v / 2 ^ c % 2 = 1
  ·refine ev_pos hone (ev_pos (by omega) (ev_pos (by rw [pbT_len]; omega) (ev_pos (by rw [tmod8]; omega) ?_)))
   have er : rd (pbT T bs) ((bs.length / 8 : Nat) : Int) = byteN bs (bs.length / 8) := by
    rw [rdD]
    simp [List.getD, pbT_get (show bs.length / 8 < T by omega)]
   rw [er, or_shr hb, Int.toNat_natCast, ← pbT_snoc (by omega)]
   rw [hone] at next
   exact next
  ·rw [show v / 2 ^ c % 2 = 0 by omega, pbT_zero] at next
   exact ev_neg hone next
theorem rpacked_ev {l : List Int} {w : Nat} (hn : l.length ≤ 2000) (hw : w ≤ 64) (hv : ∀ v ∈ l, 0 ≤ v ∧ v < 9223372036854775808) :
 Ev (fun k => peristyleref2_packed.f k l (w : Int)) (pb (allbits l w)) := by
 have hm : l.length * w ≤ 2000 * 64 := Nat.mul_le_mul hn hw
 have hm' : (l.length : Int) * (w : Int) = ((l.length * w : Nat) : Int) := by rw [Int.natCast_mul]
 have hT : wrap64 (Int.tdiv (wrap64 (wrap64 ((l.length : Int) * (w : Int)) + 7)) 8) = (((l.length * w + 7) / 8 : Nat) : Int) := by
  rw [hm', w64 (n := ((l.length * w : Nat) : Int)) (by omega) (by omega), w64 (n := ((l.length * w : Nat) : Int) + 7) (by omega) (by omega), Int.tdiv_eq_ediv_of_nonneg (by omega), w64 (by omega) (by omega)]
  omega
 have fin : pbT ((l.length * w + 7) / 8) (allbits l w) = pb (allbits l w) := by unfold pbT pb; rw [allbits_len]
 have key : ∀ d i, i ≤ l.length → l.length - i ≤ d → Ev (fun k => peristyleref2_packed.l0 k (w : Int) (pbT ((l.length * w + 7) / 8) (allbits (l.take i) w)) ((i * w : Nat) : Int) l (l.length : Int) (i : Int)) (pb (allbits l w)) := by
  intro d
  induction d with
  | zero =>
   intro i hi hd
   refine Ev.step (fun k => by rw [peristyleref2_packed.l0]) (ev_neg (by omega) ?_)
   rw [List.take_of_length_le (by omega), fin]
   exact ev_some _
  | succ d ih =>
   intro i hi hd
   refine Ev.step (fun k => by rw [peristyleref2_packed.l0]) ?_
   by_cases hlt : i < l.length
   ·refine ev_pos (by omega) (ev_pos (by omega) (ev_pos (by omega) ?_))
    have hmm : l.getD i 0 ∈ l := by
     simp only [List.getD, List.getElem?_eq_getElem hlt, Option.getD_some]
     exact List.getElem_mem hlt
    have hvi := hv _ hmm
    have hmul : (i + 1) * w ≤ l.length * w := Nat.mul_le_mul (by omega) (Nat.le_refl _)
    rw [Nat.add_mul, Nat.one_mul] at hmul
    have hal := allbits_len (l.take i) w
    rw [List.length_take, Nat.min_eq_left hi] at hal
    rw [rdD, w64 (by omega) (by omega)]
    have := rpacked_l1 ((l.length * w + 7) / 8) (by omega) (w : Int) (l.getD i 0) hvi.1 hvi.2 l (l.length : Int) (i : Int) (pb (allbits l w)) w (allbits (l.take i) w) (allbits_bits _ _) (by omega) hw ?_
    ·rw [hal] at this
     exact this
    ·rw [hal, ← allbits_take hlt, w64 (by omega) (by omega), show i * w + w = (i + 1) * w by rw [Nat.add_mul, Nat.one_mul]]
     exact ih (i + 1) (by omega) (by omega)
   ·refine ev_neg (by omega) ?_
    rw [List.take_of_length_le (by omega), fin]
    exact ev_some _
 unfold peristyleref2_packed.f
 rw [hT]
 refine ev_pos (by omega) (ev_pos (by omega) ?_)
 have h0 := key l.length 0 (by omega) (by omega)
 have e0 : pbT ((l.length * w + 7) / 8) (allbits (l.take 0) w) = List.replicate (((l.length * w + 7) / 8 : Nat) : Int).toNat 0 := by
  rw [Int.toNat_natCast]
  unfold pbT allbits
  rw [List.take_zero, List.flatMap_nil]
  refine List.ext_getElem? fun i => ?_
  by_cases h : i < (l.length * w + 7) / 8
  ·rw [List.getElem?_map, List.getElem?_range h, List.getElem?_replicate, if_pos h]
   simp [byteN, List.getD]
  ·rw [List.getElem?_eq_none (by simp; omega), List.getElem?_eq_none (by simp; omega)]
 rw [e0] at h0
 simpa using h0
/-! ### the reference's -/
theorem rdistinct_eq {l : List Int} (hl : l.length ≤ 2000) : peristyleref2_distinct.f l = some (dst l) := by
 unfold peristyleref2_distinct.f slices_Clone_int_int.f slices_Sort_int_int.f slices_Compact_int_int.f
 rw [if_pos (show l.length * 8 ≤ 140737488355328 by omega)]
 simp only [Option.bind_some]
 rw [if_pos (show l.length < 4611686018427387904 by omega)]
 rfl
theorem index_ev {d : List Int} (hs : d.Pairwise (· < ·)) (hd : d.length ≤ 100000) {v : Int} (h : v ∈ d) : Ev (fun k => slices_Index_int_int.f k d v) (pl d v : Int) := by
 have hl := pl_lt h
 have key : ∀ n (i : Nat), i ≤ pl d v → pl d v - i ≤ n → Ev (fun k => slices_Index_int_int.l0 k d v (d.length : Int) (i : Int)) (pl d v : Int) := by
  intro n
  induction n with
  | zero =>
   intro i hi hn
   rw [show i = pl d v by omega]
   refine Ev.step (fun k => by rw [slices_Index_int_int.l0]) (ev_pos (by omega) (ev_pos (by omega) (ev_pos (by omega) (ev_pos ?_ (ev_some _)))))
   rw [rdD, pl_get h]
  | succ n ih =>
   intro i hi hn
   by_cases he : i = pl d v
   ·rw [he]
    refine Ev.step (fun k => by rw [slices_Index_int_int.l0]) (ev_pos (by omega) (ev_pos (by omega) (ev_pos (by omega) (ev_pos ?_ (ev_some _)))))
    rw [rdD, pl_get h]
   ·have := (pl_iff hs h (show i < d.length by omega)).2 (by omega)
    refine Ev.step (fun k => by rw [slices_Index_int_int.l0]) (ev_pos (by omega) (ev_pos (by omega) (ev_pos (by omega) (ev_neg ?_ ?_))))
    ·rw [rdD]; omega
    ·rw [w64 (by omega) (by omega)]
     exact ih (i + 1) (by omega) (by omega)
 exact key _ 0 (by omega) (Nat.le_refl _)
theorem places_ev {l : List Int} (hl : l.length ≤ 2000) : Ev (fun k => peristyleref2_places.f k l (dst l)) (pls l) := by
 have hd := dst_len l
 have hs := dst_sorted l
 have key : ∀ n (i : Nat), i ≤ l.length → l.length - i ≤ n → Ev (fun k => peristyleref2_places.l0 k (dst l) (((l.take i).map fun v => (pl (dst l) v : Int)) ++ List.replicate (l.length - i) 0) l (l.length : Int) (i : Int)) (pls l) := by
  intro n
  induction n with
  | zero =>
   intro i hi hn
   refine Ev.step (fun k => by rw [peristyleref2_places.l0]) (ev_neg (by omega) ?_)
   rw [List.take_of_length_le (by omega), show l.length - i = 0 by omega, List.replicate_zero, List.append_nil]
   exact ev_some _
  | succ n ih =>
   intro i hi hn
   refine Ev.step (fun k => by rw [peristyleref2_places.l0]) ?_
   by_cases hlt : i < l.length
   ·have hm : l.getD i 0 ∈ l := by
     simp only [List.getD, List.getElem?_eq_getElem hlt, Option.getD_some]
     exact List.getElem_mem hlt
    refine ev_pos (by omega) (ev_pos (by omega) (ev_pos (by omega) ?_))
    rw [rdD]
    refine Ev.bind (index_ev hs.1 (by omega) ((hs.2 _).2 hm)) (ev_pos (by simp; omega) ?_)
    rw [w64 (by omega) (by omega)]
    have := ih (i + 1) (by omega) (by omega)
    rw [List.take_add_one, List.map_append] at this
    have e : (((l.take i).map fun v => (pl (dst l) v : Int)) ++ List.replicate (l.length - i) 0).set (i : Int).toNat (pl (dst l) (l.getD i 0) : Int) = (l.take i).map (fun v => (pl (dst l) v : Int)) ++ (l[i]?.toList).map (fun v => (pl (dst l) v : Int)) ++ List.replicate (l.length - (i + 1)) 0 := by
     rw [Int.toNat_natCast, List.set_append_right _ _ (by simp; omega)]
     rw [show l.length - i = (l.length - (i + 1)) + 1 by omega, List.replicate_succ]
     simp [List.getD, hlt, Nat.min_eq_left hi]
    rw [e]
    exact this
   ·refine ev_neg (by omega) ?_
    rw [List.take_of_length_le (by omega), show l.length - i = 0 by omega, List.replicate_zero, List.append_nil]
    exact ev_some _
 unfold peristyleref2_places.f
 refine ev_pos (by omega) (ev_pos (by omega) ?_)
 have := key _ 0 (by omega) (Nat.le_refl _)
 simpa using this
theorem rwidth_ev {x : Int} (h0 : 0 ≤ x) (h1 : x < 9223372036854775808) : peristyleref2_width.f x = some ((Lib.bitLen x.toNat : Nat) : Int) := by
 unfold peristyleref2_width.f bits_Len.f
 rw [u64w, Int.emod_eq_of_lt h0 (by omega), if_pos ⟨h0, by omega⟩]
 rfl
end Go.Proofs.Ythhdihnaicggiaa.I
