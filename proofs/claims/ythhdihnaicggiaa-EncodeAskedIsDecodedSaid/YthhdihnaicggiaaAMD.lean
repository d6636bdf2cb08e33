/- At, Where and Least, in plain Lean, and the law that what is asked of bytes is what is asked of the values. No conditions beyond those in each theorem. -/
import Derived.Test.YthhdihnaicggiaaAMC
namespace Go.Proofs.Ythhdihnaicggiaa.A
open Go.RowKit Go.Proofs.YthhdihnaicggiaaW.PrintWords Go.Proofs.YthhdihnaicggiaaW.PrintLast Go.Proofs.YthhdihnaicggiaaW.PrintMore
set_option linter.unusedVariables false
set_option linter.unusedSimpArgs false

/-- What At answers of values. -/
def atAns (l : List Int) (i : Int) : Int × Int := if 0 ≤ i ∧ i < (l.length : Int) then (rd l i, 0) else (0, 1)
theorem At_ev {c : Nat} (h1 : 1 ≤ c) (h5 : c ≤ 5) {l : List Int} (h : Okv l) (i : Int) : Ev (fun k => encode_At.f k (enc c l) i) (atAns l i) := by
  have hn := h.1
  unfold encode_At.f atAns
  refine Ev.bind (Decode_round h1 h5 h) (ev_pos rfl ?_)
  dsimp only
  rw [w64 (n := (l.length : Int) - 1) (by omega) (by omega), in_eq]
  refine Ev.bind (ev_some _) ?_
  by_cases hi : 0 ≤ i ∧ i < (l.length : Int)
  · rw [if_pos hi]
    exact ev_pos (by simp; omega) (ev_pos hi.1 (ev_pos hi.2 (ev_some _)))
  · rw [if_neg hi]
    exact ev_neg (by simp; omega) (ev_some _)
/-- The places of the first n values that lie between. -/
def whl (lo hi : Int) (l : List Int) (n : Nat) : List Int := ((List.range n).filter fun i => decide (lo ≤ l.getD i 0) && decide (l.getD i 0 ≤ hi)).map (fun i : Nat => (i : Int))
theorem whl_succ (lo hi : Int) (l : List Int) (n : Nat) : whl lo hi l (n + 1) = whl lo hi l n ++ (if (decide (lo ≤ l.getD n 0) && decide (l.getD n 0 ≤ hi)) = true then [(n : Int)] else []) := by
  unfold whl
  rw [List.range_succ, List.filter_append, List.map_append]
  congr 1
  by_cases h : (decide (lo ≤ l.getD n 0) && decide (l.getD n 0 ≤ hi)) = true
  · rw [if_pos h, List.filter_cons, if_pos h]; rfl
  · rw [if_neg h, List.filter_cons, if_neg h]; rfl
theorem whl_len (lo hi : Int) (l : List Int) (n : Nat) : (whl lo hi l n).length ≤ n := by
  unfold whl
  rw [List.length_map]
  exact Nat.le_trans (List.length_filter_le _ _) (by simp)
theorem whl_mem (lo hi : Int) (l : List Int) (n i : Nat) (hi' : i < n) : (i : Int) ∈ whl lo hi l n ↔ (lo ≤ l.getD i 0 ∧ l.getD i 0 ≤ hi) := by
  unfold whl
  rw [List.mem_map]
  constructor
  · rintro ⟨j, hj, e⟩
    obtain rfl : j = i := by omega
    have := (List.mem_filter.1 hj).2
    simpa using this
  · intro h
    exact ⟨i, List.mem_filter.2 ⟨List.mem_range.2 hi', by rw [decide_eq_true h.1, decide_eq_true h.2]; rfl⟩, rfl⟩
theorem whl_sorted (lo hi : Int) (l : List Int) (n : Nat) : (whl lo hi l n).Pairwise (· < ·) := by
  unfold whl
  rw [List.pairwise_map]
  exact (List.pairwise_lt_range.filter _).imp (fun h => by omega)
theorem Where_ev {c : Nat} (h1 : 1 ≤ c) (h5 : c ≤ 5) {l : List Int} (h : Okv l) {lo hi : Int} (hlh : lo ≤ hi) : Ev (fun k => encode_Where.f k (enc c l) lo hi) (whl lo hi l l.length, 0) := by
  have hn := h.1
  unfold encode_Where.f
  refine Ev.bind (Decode_round h1 h5 h) (ev_pos rfl (ev_neg (by omega) ?_))
  dsimp only
  have key : ∀ d i, i ≤ l.length → l.length - i ≤ d → Ev (fun k => encode_Where.l0 k lo hi l (whl lo hi l i) (l.length : Int) (i : Int)) (whl lo hi l l.length, 0) := by
    intro d
    induction d with
    | zero =>
      intro i hi' hd
      refine Ev.step (fun k => by rw [encode_Where.l0]) (ev_neg (by omega) ?_)
      rw [show i = l.length by omega]
      exact ev_some _
    | succ d ih =>
      intro i hi' hd
      refine Ev.step (fun k => by rw [encode_Where.l0]) ?_
      by_cases hlt : i < l.length
      · refine ev_pos (by omega) (ev_pos (by omega) (ev_pos (by omega) ?_))
        have hw := whl_len lo hi l i
        have hs := whl_succ lo hi l i
        have hih := ih (i + 1) (by omega) (by omega)
        rw [rdD, in_eq, w64 (by omega) (by omega)]
        refine Ev.bind (ev_some _) ?_
        by_cases hin : (decide (lo ≤ l.getD i 0) && decide (l.getD i 0 ≤ hi)) = true
        · rw [if_pos hin] at hs
          rw [hs] at hih
          exact ev_pos hin (ev_pos (by omega) hih)
        · rw [if_neg hin, List.append_nil] at hs
          rw [hs] at hih
          exact ev_neg hin hih
      · refine ev_neg (by omega) ?_
        rw [show i = l.length by omega]
        exact ev_some _
  have := key l.length 0 (by omega) (by omega)
  simpa [whl] using this
theorem indexNo_ev {d : List Int} (hd : d.length ≤ 100000) {v : Int} (h : v ∉ d) : Ev (fun k => slices_Index_int_int.f k d v) (-1) := by
  have key : ∀ n (i : Nat), i ≤ d.length → d.length - i ≤ n → Ev (fun k => slices_Index_int_int.l0 k d v (d.length : Int) (i : Int)) (-1) := by
    intro n
    induction n with
    | zero => intro i hi hn; exact Ev.step (fun k => by rw [slices_Index_int_int.l0]) (ev_neg (by omega) (ev_some _))
    | succ n ih =>
      intro i hi hn
      refine Ev.step (fun k => by rw [slices_Index_int_int.l0]) ?_
      by_cases hlt : i < d.length
      · refine ev_pos (by omega) (ev_pos (by omega) (ev_pos (by omega) (ev_neg ?_ ?_)))
        · rw [rdD]; exact fun e => h (e ▸ mem_getD hlt)
        · rw [w64 (by omega) (by omega)]
          exact ih (i + 1) (by omega) (by omega)
      · exact ev_neg (by omega) (ev_some _)
  exact key _ 0 (by omega) (Nat.le_refl _)
theorem indexYes_ev {d : List Int} (hs : d.Pairwise (· < ·)) (hd : d.length ≤ 100000) {v : Int} (h : v ∈ d) : Ev (fun k => slices_Index_int_int.f k d v) (pl d v : Int) := by
  have hl := pl_lt h
  have key : ∀ n (i : Nat), i ≤ pl d v → pl d v - i ≤ n → Ev (fun k => slices_Index_int_int.l0 k d v (d.length : Int) (i : Int)) (pl d v : Int) := by
    intro n
    induction n with
    | zero =>
      intro i hi hn
      rw [show i = pl d v by omega]
      refine Ev.step (fun k => by rw [slices_Index_int_int.l0]) (ev_pos (by omega) (ev_pos (by omega) (ev_pos (by omega) (ev_pos ?_ (ev_some _)))))
      rw [rdD, pl_get h]
    | succ n ih =>
      intro i hi hn
      by_cases he : i = pl d v
      · rw [he]
        refine Ev.step (fun k => by rw [slices_Index_int_int.l0]) (ev_pos (by omega) (ev_pos (by omega) (ev_pos (by omega) (ev_pos ?_ (ev_some _)))))
        rw [rdD, pl_get h]
      · have := (pl_iff hs h (show i < d.length by omega)).2 (by omega)
        refine Ev.step (fun k => by rw [slices_Index_int_int.l0]) (ev_pos (by omega) (ev_pos (by omega) (ev_pos (by omega) (ev_neg ?_ ?_))))
        · rw [rdD]; omega
        · rw [w64 (by omega) (by omega)]
          exact ih (i + 1) (by omega) (by omega)
  exact key _ 0 (by omega) (Nat.le_refl _)
theorem contains_ev {d : List Int} (hs : d.Pairwise (· < ·)) (hd : d.length ≤ 100000) (v : Int) : Ev (fun k => slices_Contains_int_int.f k d v) (decide (v ∈ d)) := by
  unfold slices_Contains_int_int.f
  by_cases h : v ∈ d
  · exact Ev.bind (indexYes_ev hs hd h) (ev_eq (ev_some _) (by simp [h]))
  · exact Ev.bind (indexNo_ev hd h) (ev_eq (ev_some _) (by simp [h]))
theorem isSorted_ev {d : List Int} (hs : d.Pairwise (· < ·)) (hd : d.length ≤ 100000) : Ev (fun k => slices_IsSorted_int_int.f k d) true := by
  have key : ∀ n : Nat, n < d.length → Ev (fun k => slices_IsSorted_int_int.l0 k d (n : Int)) true := by
    intro n
    induction n with
    | zero => intro hn; exact Ev.step (fun k => by rw [slices_IsSorted_int_int.l0]) (ev_neg (by omega) (ev_some _))
    | succ n ih =>
      intro hn
      have e : wrap64 (((n + 1 : Nat) : Int) - 1) = (n : Int) := by rw [w64 (by omega) (by omega)]; omega
      have hlt : d.getD n 0 < d.getD (n + 1) 0 := by
        have := List.pairwise_iff_getElem.1 hs n (n + 1) (by omega) hn (by omega)
        simpa [List.getD, hn, show n < d.length by omega] using this
      refine Ev.step (fun k => by rw [slices_IsSorted_int_int.l0]) ?_
      rw [e, rdD, rdD, less_ev]
      exact ev_pos (by omega) (ev_pos (by omega) (ev_pos (by omega) (ev_pos (by omega) (ev_pos (by omega) (Ev.bind (ev_some _) (ev_neg (by rw [decide_eq_true_eq]; omega) (ih (by omega))))))))
  unfold slices_IsSorted_int_int.f
  rw [w64 (by omega) (by omega)]
  by_cases h0 : d.length = 0
  · rw [h0]
    exact Ev.step (fun k => by rw [slices_IsSorted_int_int.l0]) (ev_neg (by omega) (ev_some _))
  · have := key (d.length - 1) (by omega)
    rwa [show ((d.length - 1 : Nat) : Int) = (d.length : Int) - 1 by omega] at this
/-- What Least answers of values. -/
def leastAns (l : List Int) : Int × Int × Bool × Int := if l = [] then (0, 0, false, 0) else (Lib.minOf l, Lib.maxOf l, true, 0)
theorem Least_ev {c : Nat} (h1 : 1 ≤ c) (h5 : c ≤ 5) {l : List Int} (h : Okv l) : Ev (fun k => encode_Least.f k (enc c l)) (leastAns l) := by
  unfold encode_Least.f leastAns
  refine Ev.bind (Decode_round h1 h5 h) (ev_pos rfl ?_)
  refine Ev.step (fun k => by rw [encode_Least.j0]) ?_
  by_cases hz : l = []
  · rw [if_pos hz]
    exact ev_pos (by rw [hz]; rfl) (ev_some _)
  · have hp := List.length_pos_iff.2 hz
    rw [if_neg hz]
    unfold slices_Min_int_int.f slices_Max_int_int.f
    dsimp only
    rw [if_neg hz, if_neg hz]
    exact ev_neg (by simp; exact hz) (Ev.bind (ev_some _) (Ev.bind (ev_some _) (ev_some _)))
theorem asked_l0 {c : Nat} (h1 : 1 ≤ c) (h5 : c ≤ 5) {l : List Int} (h : Okv l) {lo hi : Int} (hlh : lo ≤ hi) (d : Nat) : ∀ i : Nat, i ≤ l.length → l.length - i ≤ d →
    Ev (fun k => peristylelaw2_EncodeAskedIsDecoded.l0 k l lo hi (enc c l) (whl lo hi l l.length) l (l.length : Int) (i : Int)) true := by
  have hn := h.1
  have hw := whl_len lo hi l l.length
  have hs := whl_sorted lo hi l l.length
  have fin : Ev (fun k => (encode_Least.f k (enc c l)).bind fun bt828 => (if bt828.2.2.2 = 0 then (if (bt828.2.2.1 == (decide ((l.length : Int) > 0))) = true then (if bt828.2.2.1 = true then ((slices_Min_int_int.f l).bind fun t832 => (if bt828.1 = t832 then ((slices_Max_int_int.f l).bind fun t833 => (if bt828.2.1 = t833 then ((slices_IsSorted_int_int.f k (whl lo hi l l.length)).bind fun t834 => (if t834 = true then ((peristylelaw2_awake.f k).bind fun t835 => (some t835)) else (some false))) else (some false))) else (some false))) else ((slices_IsSorted_int_int.f k (whl lo hi l l.length)).bind fun t836 => (if t836 = true then ((peristylelaw2_awake.f k).bind fun t837 => (some t837)) else (some false)))) else (some false)) else (some false))) true := by
    have hss := isSorted_ev hs (by omega)
    refine Ev.bind (Least_ev h1 h5 h) ?_
    unfold leastAns
    by_cases hz : l = []
    · rw [if_pos hz]
      exact ev_pos rfl (ev_pos (by rw [hz]; rfl) (ev_neg (by simp) (Ev.bind hss (ev_pos rfl (Ev.bind awake_e (ev_some _))))))
    · have hp := List.length_pos_iff.2 hz
      rw [if_neg hz]
      unfold slices_Min_int_int.f slices_Max_int_int.f
      rw [if_neg hz, if_neg hz]
      exact ev_pos rfl (ev_pos (by simp; exact hp) (ev_pos rfl (Ev.bind (ev_some _) (ev_pos rfl (Ev.bind (ev_some _) (ev_pos rfl (Ev.bind hss (ev_pos rfl (Ev.bind awake_e (ev_some _))))))))))
  induction d with
  | zero =>
    intro i hi' hd
    exact Ev.step (fun k => by rw [peristylelaw2_EncodeAskedIsDecoded.l0]) (ev_neg (by omega) fin)
  | succ d ih =>
    intro i hi' hd
    refine Ev.step (fun k => by rw [peristylelaw2_EncodeAskedIsDecoded.l0]) ?_
    by_cases hlt : i < l.length
    · have hih := ih (i + 1) (by omega) (by omega)
      have hm := whl_mem lo hi l l.length i hlt
      refine ev_pos (by omega) (ev_pos (by omega) (ev_pos (by omega) (Ev.bind (contains_ev hs (by omega) _) ?_)))
      rw [rdD, w64 (by omega) (by omega)]
      by_cases hlo : l.getD i 0 ≥ lo
      · refine ev_pos hlo (ev_neg ?_ hih)
        have e : decide ((i : Int) ∈ whl lo hi l l.length) = decide (l.getD i 0 ≤ hi) := decide_eq_decide.2 (hm.trans ⟨fun h' => h'.2, fun h' => ⟨hlo, h'⟩⟩)
        rw [e]
        simp
      · refine ev_neg hlo (ev_neg ?_ hih)
        rw [decide_eq_false (fun h' => hlo (hm.1 h').1)]
        simp
    · exact ev_neg (by omega) fin
theorem asked_ev (c : Int) (l : List Int) (i lo hi : Int) : Ev (fun k => peristylelaw2_EncodeAskedIsDecoded.f k c l i lo hi) true := by
  unfold peristylelaw2_EncodeAskedIsDecoded.f
  refine Ev.bind (Encode_ev c l) ?_
  unfold encAns
  by_cases hc : 1 ≤ c ∧ c ≤ 5
  · rw [if_pos hc]
    by_cases h0 : chk l = 0
    · have h := chk_ok.1 h0
      have hn := h.1
      rw [if_pos h0]
      have j1 : ∀ f : Int, ∀ inn : Bool, (f == 0) = inn → Ev (fun k => peristylelaw2_EncodeAskedIsDecoded.j1 k l lo hi (enc c.toNat l) f inn (decide (lo > hi))) true := by
        intro f inn hf
        refine Ev.step (fun k => by rw [peristylelaw2_EncodeAskedIsDecoded.j1]) ?_
        by_cases hlh : lo > hi
        · exact ev_pos (by simpa using hlh) (ev_pos hlh (ev_pos (by rw [hf]; simp) (Ev.bind awake_e (ev_some _))))
        · refine ev_neg (by simpa using hlh) (Ev.bind (Where_ev (by omega) (by omega) h (by omega)) (ev_pos rfl ?_))
          exact asked_l0 (by omega) (by omega) h (by omega) _ 0 (by omega) (Nat.le_refl _)
      refine ev_pos rfl (Ev.bind (At_ev (by omega) (by omega) h i) ?_)
      dsimp only
      have j0 : ∀ inn : Bool, inn = decide (0 ≤ i ∧ i < (l.length : Int)) → Ev (fun k => peristylelaw2_EncodeAskedIsDecoded.j0 k l i lo hi (enc c.toNat l) (atAns l i).2 (atAns l i).1 inn) true := by
        intro inn hinn
        refine Ev.step (fun k => by rw [peristylelaw2_EncodeAskedIsDecoded.j0]) ?_
        unfold atAns
        by_cases hi' : 0 ≤ i ∧ i < (l.length : Int)
        · rw [if_pos hi']
          rw [decide_eq_true hi'] at hinn
          subst hinn
          exact ev_neg (by simp) (ev_pos rfl (ev_pos hi'.1 (ev_pos hi'.2 (ev_pos rfl (j1 0 true (by simp))))))
        · rw [if_neg hi']
          rw [decide_eq_false hi'] at hinn
          subst hinn
          exact ev_neg (by simp) (ev_neg (by simp) (j1 1 false (by simp)))
      by_cases hi0 : i ≥ 0
      · refine ev_pos hi0 (j0 _ ?_)
        by_cases hl : i < (l.length : Int)
        · rw [decide_eq_true hl, decide_eq_true ⟨hi0, hl⟩]
        · rw [decide_eq_false hl, decide_eq_false (fun h => hl h.2)]
      · refine ev_neg hi0 (j0 _ ?_)
        rw [decide_eq_false (fun h => hi0 h.1)]
    · rw [if_neg h0]
      exact ev_neg h0 (ev_pos rfl (Ev.bind awake_e (ev_some _)))
  · rw [if_neg hc]
    exact ev_neg (by simp) (ev_pos rfl (Ev.bind awake_e (ev_some _)))
theorem asked_pure (c : Int) (l : List Int) (i lo hi : Int) (hc : (Lit.int .i64 c).wf = true) (h0 : l.length ≤ maxLen ∧ ∀ x ∈ l, (fun n : Int => (Lit.int .i64 n).wf = true) x) (y0 : l.length * 8 ≤ 140737488351232) (h1 : (Lit.int .i64 i).wf = true) (h2 : (Lit.int .i64 lo).wf = true) (h3 : (Lit.int .i64 hi).wf = true) : ∃ k, peristylelaw2_EncodeAskedIsDecoded.f k c l i lo hi = some true := by
  obtain ⟨K, h⟩ := asked_ev c l i lo hi
  exact ⟨K, h K (Nat.le_refl _)⟩
end Go.Proofs.Ythhdihnaicggiaa.A
