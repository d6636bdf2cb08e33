/- What the reference encodes: the same as the program. No conditions beyond those in each theorem. -/
import Derived.Test.YthhdihnaicggiaaIMR
import Derived.Test.YthhdihnaicggiaaIM9
namespace Go.Proofs.Ythhdihnaicggiaa.I
open Go.RowKit Go.Proofs.YthhdihnaicggiaaW.PrintWords Go.Proofs.YthhdihnaicggiaaW.PrintLast Go.Proofs.YthhdihnaicggiaaW.PrintMore
set_option linter.unusedVariables false
set_option linter.unusedSimpArgs false

theorem rcheck_ev (l : List Int) : Ev (fun k => peristyleref2_checkInts.f k l) (chk l) := by
 unfold peristyleref2_checkInts.f chk
 by_cases h : l.length > 2000
 ·rw [if_pos h]
  exact ev_pos (by omega) (ev_some _)
 ·rw [if_neg h]
  refine ev_neg (by omega) ?_
  have key : ∀ n (i : Nat), i ≤ l.length → l.length - i ≤ n → Ev (fun k => peristyleref2_checkInts.l0 k l (l.length : Int) (i : Int)) (if (l.drop i).all inR then 0 else 1) := by
   intro n
   induction n with
   | zero =>
    intro i hi hn
    refine Ev.step (fun k => by rw [peristyleref2_checkInts.l0]) (ev_neg (by omega) ?_)
    rw [List.drop_eq_nil_of_le (by omega)]
    exact ev_some _
   | succ n ih =>
    intro i hi hn
    refine Ev.step (fun k => by rw [peristyleref2_checkInts.l0]) ?_
    by_cases hlt : i < l.length
    ·refine ev_pos (by omega) (ev_pos (by omega) (ev_pos (by omega) ?_))
     rw [rdD, getD_drop_head (d := 0) hlt, List.all_cons]
     by_cases hin : inR (l.getD i 0) = true
     ·have h2 : -1000000000000000 ≤ l.getD i 0 ∧ l.getD i 0 ≤ 1000000000000000 := by simpa [inR] using hin
      refine ev_neg (by omega) (ev_neg (by omega) ?_)
      rw [hin, Bool.true_and, w64 (by omega) (by omega)]
      exact ih (i + 1) (by omega) (by omega)
     ·have h2 : ¬ (-1000000000000000 ≤ l.getD i 0 ∧ l.getD i 0 ≤ 1000000000000000) := fun h' => hin (by simpa [inR] using h')
      rw [eq_false_of_ne_true hin]
      by_cases h3 : l.getD i 0 < -1000000000000000
      ·exact ev_pos h3 (ev_some _)
      ·exact ev_neg h3 (ev_pos (by omega) (ev_some _))
    ·refine ev_neg (by omega) ?_
     rw [List.drop_eq_nil_of_le (by omega)]
     exact ev_some _
  exact key _ 0 (by omega) (Nat.le_refl _)
theorem rb_l0 {l : List Int} (hn : l.length ≤ 2000) (hv : ∀ v ∈ l, -4000000000000000 ≤ v ∧ v ≤ 4000000000000000) (d : Nat) : ∀ (i : Nat) (out : List Int), i ≤ l.length → l.length - i ≤ d → out.length + 10 * (l.length - i) ≤ 1000000 →
 Ev (fun k => peristyleref2_bytesOf.l0 k out l (l.length : Int) (i : Int)) (out ++ nums (l.drop i)) := by
 induction d with
 | zero =>
  intro i out hi hd ho
  refine Ev.step (fun k => by rw [peristyleref2_bytesOf.l0]) (ev_neg (by omega) ?_)
  rw [List.drop_eq_nil_of_le (by omega)]
  simpa [nums] using ev_some out
 | succ d ih =>
  intro i out hi hd ho
  refine Ev.step (fun k => by rw [peristyleref2_bytesOf.l0]) ?_
  by_cases h : i < l.length
  ·have hb := hv _ (mem_getD h)
   have hl := num_len hb.1 hb.2
   refine ev_pos (by omega) (ev_pos (by omega) (ev_pos (by omega) ?_))
   rw [rdD]
   refine Ev.bind (rnumber_ev hb.1 hb.2) (ev_pos (by omega) ?_)
   rw [w64 (by omega) (by omega)]
   refine ev_eq (ih (i + 1) (out ++ num (l.getD i 0)) (by omega) (by omega) (by rw [List.length_append]; omega)) ?_
   rw [getD_drop_head (d := 0) h, nums, nums, List.flatMap_cons, List.append_assoc]
  ·refine ev_neg (by omega) ?_
   rw [List.drop_eq_nil_of_le (by omega)]
   simpa [nums] using ev_some out

/-! ### code 2 -/
theorem rr_l1 (x : List Int) (hx : x.length ≤ 2000) (hv : ∀ v ∈ x, -4000000000000000 ≤ v ∧ v ≤ 4000000000000000) (out : List Int) (i : Nat) (b : Int) (t : List Int) (hd_ : x.drop i = b :: t) (ho : out.length ≤ 1000000) (r : List Int) (e : Nat) :
 ∀ j, hdI b t = j + e → Ev (fun k => peristyleref2_runs.l0 k x (out ++ num b ++ cnt (hdI b t + 1)) ((i + (hdI b t + 1) : Nat) : Int)) r →
  Ev (fun k => peristyleref2_runs.l1 k x out (i : Int) ((i + (j + 1) : Nat) : Int)) r := by
 have hlen : x.length = i + (t.length + 1) := by
  have := congrArg List.length hd_
  simp at this
  omega
 have hget : ∀ q, x[i + q]? = (b :: t)[q]? := by
  intro q
  rw [← hd_, List.getElem?_drop]
 have hle := hdI_le b t
 have hi0 : x.getD i 0 = b := by
  have := hget 0
  simp at this
  simp [List.getD, this]
 have hbm := hv b (hi0 ▸ mem_getD (show i < x.length by omega))
 have fin : Unit → Ev (fun k => peristyleref2_runs.l0 k x (out ++ num b ++ cnt (hdI b t + 1)) ((i + (hdI b t + 1) : Nat) : Int)) r →
  Ev (fun k => (peristyleref2_number.f k (rd x (i : Int))).bind fun t498 => (if out.length + t498.length < 140737488355328 then ((some (out ++ t498 : List Int)).bind fun y501 => ((peristyleref2_count.f k (wrap64 (((i + (hdI b t + 1) : Nat) : Int) - (i : Int)))).bind fun t504 => (if y501.length + t504.length < 140737488355328 then (peristyleref2_runs.l0 k x (y501 ++ t504) ((i + (hdI b t + 1) : Nat) : Int)) else (none)))) else (none))) r := by
  intro _ h
  have hnl := num_len hbm.1 hbm.2
  have hcl := cnt_len10 (n := hdI b t + 1) (by omega)
  have hc : Ev (fun k => peristyleref2_count.f k ((hdI b t + 1 : Nat) : Int)) (cnt (hdI b t + 1)) := rcount_ev (by omega)
  have hN : Ev (fun k => peristyleref2_number.f k b) (num b) := rnumber_ev hbm.1 hbm.2
  have ew : wrap64 (((i + (hdI b t + 1) : Nat) : Int) - (i : Int)) = ((hdI b t + 1 : Nat) : Int) := by rw [w64 (by omega) (by omega)]; omega
  rw [rdD, hi0, ew]
  exact Ev.bind hN (ev_pos (by omega) (Ev.bind (ev_some _) (Ev.bind hc (ev_pos (by rw [List.length_append]; omega) h))))
 induction e with
 | zero =>
  intro j hj h
  have hj' : j = hdI b t := by omega
  subst hj'
  refine Ev.step (fun k => by rw [peristyleref2_runs.l1]) ?_
  by_cases hin : i + (hdI b t + 1) < x.length
  ·obtain ⟨c, hc, hne⟩ := hdI_end (b := b) (l := t) (by omega)
   have hnx : x.getD (i + (hdI b t + 1)) 0 = c := by
    have h1 := hget (hdI b t + 1)
    simp only [List.getElem?_cons_succ, hc] at h1
    simp [List.getD, h1]
   refine ev_pos (by omega) (ev_pos (by omega) (ev_pos (by omega) (ev_pos (by omega) (ev_neg ?_ (fin () h)))))
   rw [rdD, rdD, hnx, hi0]
   exact hne
  ·exact ev_neg (by omega) (ev_pos (by omega) (ev_pos (by omega) (fin () h)))
 | succ e ih =>
  intro j hj h
  clear fin hbm hv ho
  have e2 := wadd (i + (j + 1)) 1 (by omega)
  rw [show ((1 : Nat) : Int) = 1 from rfl] at e2
  refine Ev.step (fun k => by rw [peristyleref2_runs.l1]) ?_
  rw [e2]
  have hnx : x.getD (i + (j + 1)) 0 = b := by
   have h1 := hget (j + 1)
   have h2 := hdI_get (b := b) (l := t) (j := j) (by omega)
   simp only [List.getElem?_cons_succ, h2] at h1
   simp [List.getD, h1]
  refine ev_pos (by omega) (ev_pos (by omega) (ev_pos (by omega) (ev_pos (by omega) (ev_pos ?_ ?_))))
  ·rw [rdD, rdD, hnx, hi0]
  ·exact ih (j + 1) (by omega) h
theorem rr_l0 (x : List Int) (hx : x.length ≤ 2000) (hv : ∀ v ∈ x, -4000000000000000 ≤ v ∧ v ≤ 4000000000000000) (d : Nat) : ∀ (i : Nat) (out : List Int), i ≤ x.length → x.length - i ≤ d → out.length + 20 * (x.length - i) ≤ 1000000 →
 Ev (fun k => peristyleref2_runs.l0 k x out (i : Int)) (out ++ rle (x.drop i)) := by
 induction d with
 | zero =>
  intro i out hi hdd ho
  refine Ev.step (fun k => by rw [peristyleref2_runs.l0]) (ev_neg (by omega) ?_)
  rw [List.drop_eq_nil_of_le (by omega), rle_nil, List.append_nil]
  exact ev_some out
 | succ d ih =>
  intro i out hi hdd ho
  refine Ev.step (fun k => by rw [peristyleref2_runs.l0]) ?_
  by_cases hlt : i < x.length
  ·obtain ⟨b, t, hbt⟩ : ∃ b t, x.drop i = b :: t := ⟨_, _, getD_drop_head (d := 0) hlt⟩
   have hlen : x.length = i + (t.length + 1) := by
    have := congrArg List.length hbt
    simp at this
    omega
   have hle := hdI_le b t
   have hbm : b ∈ x := List.mem_of_mem_drop (i := i) (by rw [hbt]; exact List.mem_cons_self ..)
   have hnl := num_len (hv b hbm).1 (hv b hbm).2
   have hcl := cnt_len10 (n := hdI b t + 1) (by omega)
   refine ev_pos (by omega) (Ev.step (fun k => by rw [peristyleref2_runs.l1]) (ev_pos (by omega) (ev_pos (by omega) (ev_pos (by omega) (ev_pos (by omega) (ev_pos rfl ?_))))))
   have e1 := wadd i 1 (by omega)
   rw [show ((1 : Nat) : Int) = 1 from rfl] at e1
   rw [e1]
   refine rr_l1 x hx hv out i b t hbt (by omega) _ (hdI b t) 0 (by omega) ?_
   refine ev_eq (ih (i + (hdI b t + 1)) (out ++ num b ++ cnt (hdI b t + 1)) (by omega) (by omega) (by rw [List.length_append, List.length_append]; omega)) ?_
   rw [hbt, rle_cons, ← List.drop_drop, hbt, List.drop_succ_cons]
   simp only [List.append_assoc]
  ·refine ev_neg (by omega) ?_
   rw [List.drop_eq_nil_of_le (by omega), rle_nil, List.append_nil]
   exact ev_some out
theorem rruns_ev {x : List Int} (hx : x.length ≤ 2000) (hv : ∀ v ∈ x, -4000000000000000 ≤ v ∧ v ≤ 4000000000000000) : Ev (fun k => peristyleref2_runs.f k x) (rle x) := by
 have := rr_l0 x hx hv _ 0 [] (by omega) (Nat.le_refl _) (by simp; omega)
 rw [List.nil_append, List.drop_zero] at this
 exact this
/-! ### code 5 -/
theorem rd5_l0 {l : List Int} (h : Okv l) (d : Nat) : ∀ (i : Nat) (out : List Int), i + 1 ≤ l.length → l.length - (i + 1) ≤ d → out.length + 10 * (l.length - i) ≤ 1000000 →
 Ev (fun k => peristyleref2_deltas.l0 k l out ((i + 1 : Nat) : Int)) (out ++ dlt (l.getD i 0) (l.drop (i + 1))) := by
 have hn := h.1
 have done : ∀ (i : Nat) (out : List Int), i + 1 = l.length → Ev (fun k => peristyleref2_deltas.l0 k l out ((i + 1 : Nat) : Int)) (out ++ dlt (l.getD i 0) (l.drop (i + 1))) := by
  intro i out hi
  refine Ev.step (fun k => by rw [peristyleref2_deltas.l0]) (ev_neg (by omega) ?_)
  rw [List.drop_eq_nil_of_le (by omega), dlt, List.append_nil]
  exact ev_some _
 induction d with
 | zero => intro i out hi hd ho; exact done i out (by omega)
 | succ d ih =>
  intro i out hi hd ho
  by_cases hlt : i + 1 < l.length
  ·have hb := h.2 _ (mem_getD hlt)
   have hb0 := h.2 _ (mem_getD (show i < l.length by omega))
   have hl := num_len (v := l.getD (i + 1) 0 - l.getD i 0) (by omega) (by omega)
   have e1 : wrap64 (((i + 1 : Nat) : Int) - 1) = (i : Int) := by rw [w64 (by omega) (by omega)]; omega
   refine Ev.step (fun k => by rw [peristyleref2_deltas.l0]) ?_
   rw [e1, rdD, rdD, w64 (n := l.getD (i + 1) 0 - l.getD i 0) (by omega) (by omega), w64 (n := ((i + 1 : Nat) : Int) + 1) (by omega) (by omega)]
   refine ev_pos (by omega) (ev_pos (by omega) (ev_pos (by omega) (ev_pos (by omega) ?_)))
   refine Ev.bind (rnumber_ev (by omega) (by omega)) (ev_pos (by omega) ?_)
   refine ev_eq (ih (i + 1) (out ++ num (l.getD (i + 1) 0 - l.getD i 0)) (by omega) (by omega) (by rw [List.length_append]; omega)) ?_
   rw [getD_drop_head (d := 0) hlt, dlt, List.append_assoc]
  ·exact done i out (by omega)
theorem rdeltas_ev {l : List Int} (h : Okv l) (hz : l ≠ []) : Ev (fun k => peristyleref2_deltas.f k l) (dlt 0 l) := by
 have hn := h.1
 have hp := List.length_pos_iff.2 hz
 have hb := h.2 _ (mem_getD hp)
 have hl := num_len (v := l.getD 0 0) (by omega) (by omega)
 unfold peristyleref2_deltas.f
 refine ev_pos (by omega) ?_
 rw [show (0 : Int) = ((0 : Nat) : Int) from rfl, rdD]
 refine Ev.bind (rnumber_ev (by omega) (by omega)) ?_
 refine ev_eq (rd5_l0 h _ 0 _ (by omega) (Nat.le_refl _) (by omega)) ?_
 have e : l = l.getD 0 0 :: l.drop 1 := by
  have := getD_drop_head (d := 0) hp
  rwa [List.drop_zero] at this
 conv => rhs; rw [e]
 rw [dlt]
 simp
/-! ### code 3 -/
theorem rd3_l0 {l : List Int} (hl : l.length ≤ 2000) (hv : ∀ v ∈ l, -1000000000000000 ≤ v ∧ v ≤ 1000000000000000) (d : Nat) : ∀ (i : Nat) (out : List Int), i + 1 ≤ (dst l).length → (dst l).length - (i + 1) ≤ d → out.length + 10 * ((dst l).length - i) ≤ 1000000 →
 Ev (fun k => peristyleref2_dict.l0 k l (dst l) out ((i + 1 : Nat) : Int)) (out ++ dif ((dst l).getD i 0) ((dst l).drop (i + 1)) ++ pb (allbits (pls l) (Lib.bitLen ((dst l).length - 1)))) := by
 have hs := dst_sorted l
 have hdl := dst_len l
 have hpb := pb_len_le (l := pls l) (w := Lib.bitLen ((dst l).length - 1)) (by rw [pls_len]; exact hl) (bitLen64 (by omega))
 have done : ∀ (i : Nat) (out : List Int), i + 1 = (dst l).length → out.length ≤ 1000000 → Ev (fun k => peristyleref2_dict.l0 k l (dst l) out ((i + 1 : Nat) : Int)) (out ++ dif ((dst l).getD i 0) ((dst l).drop (i + 1)) ++ pb (allbits (pls l) (Lib.bitLen ((dst l).length - 1)))) := by
  intro i out hi ho
  refine Ev.step (fun k => by rw [peristyleref2_dict.l0]) (ev_neg (by omega) ?_)
  rw [List.drop_eq_nil_of_le (by omega), dif, List.append_nil, w64 (by omega) (by omega), rwidth_ev (by omega) (by omega)]
  refine Ev.bind (places_ev hl) (Ev.bind (ev_some _) (Ev.bind ?_ (ev_pos (by omega) (ev_some _))))
  rw [show (((dst l).length : Int) - 1).toNat = (dst l).length - 1 by omega]
  exact rpacked_ev (by rw [pls_len]; exact hl) (bitLen64 (by omega)) (fun v h => by have := pls_range v h; omega)
 induction d with
 | zero =>
  intro i out hi hd ho
  exact done i out (by omega) (by omega)
 | succ d ih =>
  intro i out hi hd ho
  by_cases h : i + 1 < (dst l).length
  ·have hb1 := hv _ ((hs.2 _).1 (mem_getD h))
   have hb0 := hv _ ((hs.2 _).1 (mem_getD (show i < (dst l).length by omega)))
   have hlt : (dst l).getD i 0 < (dst l).getD (i + 1) 0 := by
    have := List.pairwise_iff_getElem.1 hs.1 i (i + 1) (by omega) h (by omega)
    simpa [List.getD, h, show i < (dst l).length by omega] using this
   have hcl := cnt_len10 (n := ((dst l).getD (i + 1) 0 - (dst l).getD i 0).toNat) (by omega)
   have ei : wrap64 (((i + 1 : Nat) : Int) - 1) = (i : Int) := by rw [w64 (by omega) (by omega)]; omega
   have ec : wrap64 ((dst l).getD (i + 1) 0 - (dst l).getD i 0) = (((dst l).getD (i + 1) 0 - (dst l).getD i 0).toNat : Int) := by
    rw [w64 (by omega) (by omega)]; omega
   refine Ev.step (fun k => by rw [peristyleref2_dict.l0]) ?_
   rw [ei, rdD, rdD, ec, w64 (by omega) (by omega)]
   refine ev_pos (by omega) (ev_pos (by omega) (ev_pos (by omega) (ev_pos (by omega) ?_)))
   refine Ev.bind (rcount_ev (by omega)) (ev_pos (by omega) ?_)
   refine ev_eq (ih (i + 1) (out ++ cnt ((dst l).getD (i + 1) 0 - (dst l).getD i 0).toNat) (by omega) (by omega) (by rw [List.length_append]; omega)) ?_
   rw [getD_drop_head (d := 0) h, dif]
   simp only [List.append_assoc]
  ·exact done i out (by omega) (by omega)
theorem rdict_ev {l : List Int} (h : Okv l) (hz : l ≠ []) : Ev (fun k => peristyleref2_dict.f k l) (dict l) := by
 have hn := h.1
 have hdl := dst_len l
 have hdp := dst_ne hz
 have hm := h.2 _ (((dst_sorted l).2 _).1 (mem_getD hdp))
 have hc2 := cnt_len10 (n := (dst l).length) (by omega)
 have hnl := num_len (v := (dst l).getD 0 0) (by omega) (by omega)
 unfold peristyleref2_dict.f
 rw [rdistinct_eq hn]
 refine Ev.bind (ev_some _) (Ev.bind (rcount_ev (by omega)) (ev_pos (by omega) ?_))
 rw [show (0 : Int) = ((0 : Nat) : Int) from rfl, rdD]
 refine Ev.bind (rnumber_ev (by omega) (by omega)) (ev_pos (by omega) ?_)
 refine ev_eq (rd3_l0 hn h.2 _ 0 _ (by omega) (Nat.le_refl _) (by rw [List.length_append]; omega)) ?_
 unfold dict
 simp only [List.append_assoc]
/-! ### code 4 -/
theorem rf_l0 {l : List Int} (h : Okv l) (hz : l ≠ []) (d : Nat) : ∀ i : Nat, i ≤ l.length → l.length - i ≤ d →
 Ev (fun k => peristyleref2_frame.l0 k (Lib.minOf l) (fw l : Int) (((l.take i).map fun v => v - Lib.minOf l) ++ List.replicate (l.length - i) 0) l (l.length : Int) (i : Int)) (frame l) := by
 have h1 := h.2 _ (maxOf_ge l hz).1
 have h2 := h.2 _ (minOf_le l hz).1
 have hl := h.1
 have hfw := fw_le h hz
 have hnl := num_len (v := Lib.minOf l) (by omega) (by omega)
 have hpb := pb_len_le (l := fs l) (w := fw l) (by simpa [fs] using hl) (by omega)
 have done : Ev (fun k => (peristyleref2_number.f k (Lib.minOf l)).bind fun t584 => (if t584.length < 140737488355328 then ((some (t584 ++ [((fw l : Int)) % 256] : List Int)).bind fun y587 => ((peristyleref2_packed.f k (fs l) (fw l : Int)).bind fun t590 => (if y587.length + t590.length < 140737488355328 then (some (y587 ++ t590)) else (none)))) else (none))) (frame l) := by
  rw [Int.emod_eq_of_lt (show 0 ≤ (fw l : Int) by omega) (by omega)]
  refine Ev.bind (rnumber_ev (by omega) (by omega)) (ev_pos (by omega) (Ev.bind (ev_some _) ?_))
  refine Ev.bind (rpacked_ev (by simpa [fs] using hl) (by omega) (fun v hv => by have := fs_range h hz v hv; omega)) (ev_pos (by rw [List.length_append, List.length_singleton]; omega) ?_)
  exact ev_some _
 induction d with
 | zero =>
  intro i hi hd
  refine Ev.step (fun k => by rw [peristyleref2_frame.l0]) (ev_neg (by omega) ?_)
  rw [List.take_of_length_le (by omega), show l.length - i = 0 by omega, List.replicate_zero, List.append_nil]
  exact done
 | succ d ih =>
  intro i hi hd
  refine Ev.step (fun k => by rw [peristyleref2_frame.l0]) ?_
  by_cases hlt : i < l.length
  ·have hb := h.2 _ (mem_getD hlt)
   refine ev_pos (by omega) (ev_pos (by omega) (ev_pos (by omega) (ev_pos (by simp; omega) ?_)))
   rw [rdD, w64 (by omega) (by omega), w64 (by omega) (by omega), Int.toNat_natCast]
   have := ih (i + 1) (by omega) (by omega)
   have e : (((l.take i).map fun v => v - Lib.minOf l) ++ List.replicate (l.length - i) 0).set i (l.getD i 0 - Lib.minOf l) = ((l.take (i + 1)).map fun v => v - Lib.minOf l) ++ List.replicate (l.length - (i + 1)) 0 := by
    rw [List.set_append_right _ _ (by simp; omega), List.take_add_one, List.map_append, show l.length - i = (l.length - (i + 1)) + 1 by omega, List.replicate_succ]
    simp [List.getD, hlt, Nat.min_eq_left hi]
   rw [e]
   exact this
  ·refine ev_neg (by omega) ?_
   rw [List.take_of_length_le (by omega), show l.length - i = 0 by omega, List.replicate_zero, List.append_nil]
   exact done
theorem rframe_ev {l : List Int} (h : Okv l) (hz : l ≠ []) : Ev (fun k => peristyleref2_frame.f k l) (frame l) := by
 have hx := h.2 _ (maxOf_ge l hz).1
 have hm := h.2 _ (minOf_le l hz).1
 have hle := (minOf_le l hz).2 _ (maxOf_ge l hz).1
 have hl := h.1
 unfold peristyleref2_frame.f slices_Min_int_int.f slices_Max_int_int.f
 rw [if_neg hz, if_neg hz]
 refine Ev.bind (ev_some _) (Ev.bind (ev_some _) (Ev.bind (ev_some _) ?_))
 rw [w64 (by omega) (by omega), rwidth_ev (by omega) (by omega)]
 refine Ev.bind (ev_some _) (ev_pos (by omega) (ev_pos (by omega) ?_))
 have := rf_l0 h hz _ 0 (by omega) (Nat.le_refl _)
 unfold fw at this
 simpa using this
/-! ### all codes -/
theorem rbytes_ev {c : Nat} (h1 : 1 ≤ c) (h5 : c ≤ 5) {l : List Int} (h : Okv l) : Ev (fun k => peristyleref2_bytesOf.f k (c : Int) l) (enc c l) := by
 have hn := h.1
 have hcl := cnt_len10 (n := l.length) (by omega)
 have h4 : ∀ v ∈ l, -4000000000000000 ≤ v ∧ v ≤ 4000000000000000 := fun v hv => by have := h.2 v hv; omega
 have hel := enc_len (c := c) h
 have eE : enc c l = ([(c : Int)] ++ cnt l.length) ++ (if l = [] then [] else body c l) := by simp [enc]
 rw [eE] at hel ⊢
 have hout : ([(c : Int)] ++ cnt l.length).length ≤ 11 := by rw [List.length_append, List.length_singleton]; omega
 unfold peristyleref2_bytesOf.f
 rw [Int.emod_eq_of_lt (show 0 ≤ (c : Int) by omega) (by omega)]
 refine Ev.bind (ev_some _) (Ev.bind (rcount_ev (by omega)) (ev_pos (by simp; omega) (Ev.bind (ev_some _) ?_)))
 by_cases hz : l = []
 ·rw [if_pos hz]
  exact ev_pos (by rw [hz]; rfl) (ev_eq (ev_some _) (by simp))
 ·rw [if_neg hz] at hel ⊢
  rw [List.length_append] at hel
  have hp := List.length_pos_iff.2 hz
  refine ev_neg (by omega) ?_
  unfold body at hel ⊢
  by_cases e1 : c = 1
  ·rw [if_pos e1]
   exact ev_pos (by omega) (rb_l0 hn h4 _ 0 _ (by omega) (Nat.le_refl _) (by omega))
  rw [if_neg e1] at hel ⊢
  refine ev_neg (by omega) ?_
  by_cases e2 : c = 2
  ·rw [if_pos e2] at hel ⊢
   exact ev_pos (by omega) (Ev.bind (rruns_ev hn h4) (ev_pos (by omega) (ev_some _)))
  rw [if_neg e2] at hel ⊢
  refine ev_neg (by omega) ?_
  by_cases e3 : c = 3
  ·rw [if_pos e3] at hel ⊢
   exact ev_pos (by omega) (Ev.bind (rdict_ev h hz) (ev_pos (by omega) (ev_some _)))
  rw [if_neg e3] at hel ⊢
  refine ev_neg (by omega) ?_
  by_cases e4 : c = 4
  ·rw [if_pos e4] at hel ⊢
   exact ev_pos (by omega) (Ev.bind (rframe_ev h hz) (ev_pos (by omega) (ev_some _)))
  rw [if_neg e4] at hel ⊢
  exact ev_neg (by omega) (Ev.bind (rdeltas_ev h hz) (ev_pos (by omega) (ev_some _)))
/-! ### Encode and Best -/
theorem rEncode_ev (c : Int) (l : List Int) : Ev (fun k => peristyleref2_Encode.f k c l) (encAns c l) := by
 have j0 : ∀ out : Bool, out = !decide (1 ≤ c ∧ c ≤ 5) → Ev (fun k => peristyleref2_Encode.j0 k c l out) (encAns c l) := by
  intro out ho
  refine Ev.step (fun k => by rw [peristyleref2_Encode.j0]) ?_
  unfold encAns
  by_cases hc : 1 ≤ c ∧ c ≤ 5
  ·obtain rfl : out = false := by rw [ho, decide_eq_true hc]; rfl
   rw [if_pos hc]
   refine ev_neg (by simp) (Ev.bind (rcheck_ev l) ?_)
   by_cases h0 : chk l = 0
   ·rw [if_pos h0]
    have := rbytes_ev (c := c.toNat) (by omega) (by omega) (chk_ok.1 h0)
    rw [Int.toNat_of_nonneg (by omega)] at this
    exact ev_pos h0 (Ev.bind this (ev_some _))
   ·rw [if_neg h0]
    exact ev_neg h0 (ev_some _)
  ·obtain rfl : out = true := by rw [ho, decide_eq_false hc]; rfl
   rw [if_neg hc]
   exact ev_pos rfl (ev_some _)
 unfold peristyleref2_Encode.f
 by_cases h1 : c < 1
 ·exact ev_pos h1 (j0 true (by rw [decide_eq_false (fun h => by omega)]; rfl))
 ·refine ev_neg h1 (j0 _ ?_)
  by_cases h5 : c > 5
  ·rw [decide_eq_true h5, decide_eq_false (fun h => by omega)]; rfl
  ·rw [decide_eq_false h5, decide_eq_true ⟨by omega, by omega⟩]; rfl
/-- The best of the codes from i on, if the best before them is b. -/
theorem rBest_l0 {l : List Int} (h : Okv l) (n : Nat) : ∀ i b : Nat, i + n = 6 → 1 ≤ b → b < i → Ev (fun k => peristyleref2_Best.l0 k l (b : Int) (i : Int)) ((bst l n i b : Int), 0) := by
 induction n with
 | zero =>
  intro i b hi h1 hb
  refine Ev.step (fun k => by rw [peristyleref2_Best.l0]) ?_
  exact ev_neg (show ¬ (i : Int) ≤ 5 by omega) (ev_some _)
 | succ n ih =>
  intro i b hi h1 hb
  refine Ev.step (fun k => by rw [peristyleref2_Best.l0]) (ev_pos (by omega) (Ev.bind (rbytes_ev (by omega) (by omega) h) (Ev.bind (rbytes_ev h1 (by omega) h) ?_)))
  rw [w64 (by omega) (by omega), bst, if_neg (show ¬ b = 0 by omega)]
  by_cases hlt : el l i < el l b
  ·rw [if_pos hlt]
   exact ev_pos (by exact_mod_cast hlt) (ih (i + 1) i (by omega) (by omega) (by omega))
  ·rw [if_neg hlt]
   exact ev_neg (by exact_mod_cast hlt) (ih (i + 1) b (by omega) h1 (by omega))
theorem rBest_ev (l : List Int) : Ev (fun k => peristyleref2_Best.f k l) (bestAns l) := by
 unfold peristyleref2_Best.f bestAns
 refine Ev.bind (rcheck_ev l) ?_
 by_cases h0 : chk l = 0
 ·rw [if_pos h0]
  have := rBest_l0 (chk_ok.1 h0) 4 2 1 rfl (by omega) (by omega)
  have e : bestOf l = bst l 4 2 1 := by unfold bestOf; rw [bst, if_pos rfl]
  rw [e]
  exact ev_pos h0 this
 ·rw [if_neg h0]
  exact ev_neg h0 (ev_some _)
end Go.Proofs.Ythhdihnaicggiaa.I
