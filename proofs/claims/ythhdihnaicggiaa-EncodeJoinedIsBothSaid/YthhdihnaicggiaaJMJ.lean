/- What is joined of encoded values is what is encoded of both, in plain Lean, as the row asks for it. No conditions beyond those in each theorem. -/
import Derived.Test.YthhdihnaicggiaaJMC
namespace Go.Proofs.Ythhdihnaicggiaa.J
open Go.RowKit Go.Proofs.YthhdihnaicggiaaW.PrintWords Go.Proofs.YthhdihnaicggiaaW.PrintLast Go.Proofs.YthhdihnaicggiaaW.PrintMore
set_option linter.unusedVariables false
set_option linter.unusedSimpArgs false
/-- A row of numbers that is read, as a row that others may share. -/
theorem V_of_C {w : World} {A : Option Addr} {c : Nat} {xs : List Int} (e : Nat) (h : Kd.C (Kd.int .i64) w A xs.length xs) (hc : xs.length ≤ c) : Kd.V (Kd.int .i64) e w w.heap.size (fun _ => True) (.slice A xs.length c) xs := by
  refine ⟨A, c, rfl, hc, fun W' hW => ?_⟩
  have hr := Kd.reads_of_C (enc := Value.int .i64) (d := (0 : Int)) (h1 := fun _ => rfl) h
  refine Kd.C_of_reads (enc := Value.int .i64) (d := (0 : Int)) (h1 := fun _ => rfl) ⟨hr.1, hr.2.1, fun hn => ?_⟩
  obtain ⟨ad, e, hcell⟩ := hr.2.2 hn
  refine ⟨ad, e, fun j hj => ?_⟩
  have := hcell j hj
  rw [World.cell?_of_block (a := ad.add j) (hW _ trivial (World.block_lt_of_cell? w _ this))]
  exact this
theorem concat_ev {x y : List Int} (hx : x.length ≤ 100000) (hy : y.length ≤ 100000) : Ev (fun k => slices_Concat_int_int.f k [x, y]) (x ++ y) := by
  have e0 : rd_L2 [x, y] 0 = x := rfl
  have e1 : rd_L2 [x, y] 1 = y := rfl
  have hl1 : Ev (fun k => slices_Concat_int_int.l1 k [] [x, y] 2 0) (x ++ y) := by
    refine Ev.step (fun k => by rw [slices_Concat_int_int.l1]) (ev_pos (by omega) (ev_pos (by omega) (ev_pos (by simp) (ev_pos (by rw [e0]; simp; omega) ?_))))
    rw [e0, List.nil_append, show wrap64 (0 + 1) = 1 by simp [wrap64]]
    refine Ev.step (fun k => by rw [slices_Concat_int_int.l1]) (ev_pos (by omega) (ev_pos (by omega) (ev_pos (by simp) (ev_pos (by rw [e1]; omega) ?_))))
    rw [e1, show wrap64 (1 + 1) = 2 by simp [wrap64]]
    exact Ev.step (fun k => by rw [slices_Concat_int_int.l1]) (ev_neg (by omega) (ev_some _))
  have hg : slices_Grow_int_int.f [] ((x.length : Int) + y.length) = some [] := by
    unfold slices_Grow_int_int.f
    rw [if_pos ⟨rfl, by omega, by omega⟩]
  unfold slices_Concat_int_int.f
  show Ev (fun k => slices_Concat_int_int.l0 k [x, y] 0 [x, y] 2 0) (x ++ y)
  refine Ev.step (fun k => by rw [slices_Concat_int_int.l0]) (ev_pos (by omega) (ev_pos (by omega) (ev_pos (by simp) ?_)))
  rw [e0, show wrap64 (0 + (x.length : Int)) = (x.length : Int) by rw [w64 (by omega) (by omega)]; omega, show wrap64 (0 + 1) = 1 by simp [wrap64]]
  refine ev_neg (by omega) (Ev.step (fun k => by rw [slices_Concat_int_int.l0]) (ev_pos (by omega) (ev_pos (by omega) (ev_pos (by simp) ?_))))
  rw [e1, w64 (n := (x.length : Int) + y.length) (by omega) (by omega), show wrap64 (1 + 1) = 2 by simp [wrap64]]
  refine ev_neg (by omega) (Ev.step (fun k => by rw [slices_Concat_int_int.l0]) (ev_neg (by omega) ?_))
  rw [hg]
  exact Ev.bind (ev_some _) hl1
theorem Okv_app {l m : List Int} (hl : Okv l) (hm : Okv m) (h : l.length + m.length ≤ 2000) : Okv (l ++ m) :=
  ⟨by simpa using h, fun v hv => (List.mem_append.1 hv).elim (hl.2 v) (hm.2 v)⟩
theorem joined_ev {c d : Nat} (hc : 1 ≤ c ∧ c ≤ 5) (hd : 1 ≤ d ∧ d ≤ 5) {l m : List Int} (hl : Okv l) (hm : Okv m) :
    Ev (fun k => encode_Joined.f k (enc c l) (enc d m)) (if l.length + m.length > 2000 then ([], 2) else (enc (bestOf (l ++ m)) (l ++ m), 0)) := by
  have h1 := hl.1
  have h2 := hm.1
  unfold encode_Joined.f
  refine Ev.bind (Decode_round hc.1 hc.2 hl) (ev_pos rfl (Ev.bind (Decode_round hd.1 hd.2 hm) (ev_pos rfl ?_)))
  dsimp only
  rw [w64 (n := (l.length : Int) + m.length) (by omega) (by omega)]
  by_cases h : l.length + m.length > 2000
  · rw [if_pos h]
    exact ev_pos (by omega) (ev_some _)
  · rw [if_neg h]
    have ho := Okv_app hl hm (by omega)
    have hb := bestOf_spec (l ++ m)
    exact ev_neg (by omega) (Ev.bind (concat_ev (x := l) (y := m) (by omega) (by omega)) (Ev.bind (best_ev ho) (Ev.bind (encode_ev hb.1 hb.2.1 ho) (ev_some _))))
theorem encAns_eq (c : Int) (l : List Int) : ((encAns c l).2 = 0 ∧ 1 ≤ c ∧ c ≤ 5 ∧ Okv l ∧ encAns c l = (enc c.toNat l, 0)) ∨ (encAns c l).2 ≠ 0 := by
  unfold encAns
  by_cases hc : 1 ≤ c ∧ c ≤ 5
  · by_cases h0 : chk l = 0
    · rw [if_pos hc, if_pos h0]
      exact Or.inl ⟨rfl, hc.1, hc.2, chk_ok.1 h0, rfl⟩
    · rw [if_pos hc, if_neg h0]
      exact Or.inr h0
  · rw [if_neg hc]
    exact Or.inr (by simp)
theorem chk_big {l : List Int} (h : l.length > 2000) : chk l = 2 := by unfold chk; rw [if_pos h]
theorem both_j0 {c d : Nat} (hc : 1 ≤ c ∧ c ≤ 5) (hd : 1 ≤ d ∧ d ≤ 5) {l m : List Int} (hl : Okv l) (hm : Okv m) : Ev (fun k => peristylelaw2_EncodeJoinedIsBoth.j0 k l m (enc c l) (enc d m) false) true := by
  have h1 := hl.1
  have h2 := hm.1
  refine Ev.step (fun k => by rw [peristylelaw2_EncodeJoinedIsBoth.j0]) (ev_neg (by simp) (Ev.bind (joined_ev hc hd hl hm) (Ev.bind (concat_ev (x := l) (y := m) (by omega) (by omega)) (Ev.bind (Best_ev (l ++ m)) ?_))))
  by_cases h : l.length + m.length > 2000
  · have h3 : chk (l ++ m) = 2 := chk_big (by rw [List.length_append]; exact h)
    rw [if_pos h, show bestAns (l ++ m) = (0, 2) by unfold bestAns; rw [h3]; rfl]
    exact ev_neg (by simp) (ev_pos rfl (ev_pos rfl (Ev.bind awake_e (ev_some _))))
  · have ho := Okv_app hl hm (by omega)
    have h3 : chk (l ++ m) = 0 := chk_ok.2 ho
    have hb := bestOf_spec (l ++ m)
    have he : encAns (bestOf (l ++ m) : Int) (l ++ m) = (enc (bestOf (l ++ m)) (l ++ m), 0) := by
      unfold encAns
      have b1 := hb.1
      have b5 := hb.2.1
      rw [if_pos (by omega), if_pos h3, Int.toNat_natCast]
    have hel := enc_len (c := bestOf (l ++ m)) ho
    rw [if_neg h, show bestAns (l ++ m) = ((bestOf (l ++ m) : Int), 0) by unfold bestAns; rw [if_pos h3]]
    refine ev_pos rfl (Ev.bind (Encode_ev _ _) ?_)
    dsimp only
    rw [he]
    refine ev_pos rfl (ev_pos rfl (Ev.bind (eqB_ev (by show (enc _ _).length ≤ _; omega)) (ev_pos (show decide (enc (bestOf (l ++ m)) (l ++ m) = enc (bestOf (l ++ m)) (l ++ m)) = true by simp) (Ev.bind awake_e (ev_some _)))))
theorem both_ev (c d : Int) (l m : List Int) : Ev (fun k => peristylelaw2_EncodeJoinedIsBoth.f k c d l m) true := by
  have stop : ∀ x y, Ev (fun k => peristylelaw2_EncodeJoinedIsBoth.j0 k l m x y true) true := fun x y =>
    Ev.step (fun k => by rw [peristylelaw2_EncodeJoinedIsBoth.j0]) (ev_pos rfl (Ev.bind awake_e (ev_some _)))
  unfold peristylelaw2_EncodeJoinedIsBoth.f
  refine Ev.bind (Encode_ev c l) (Ev.bind (Encode_ev d m) ?_)
  rcases encAns_eq c l with ⟨h0, hc1, hc5, hl, he⟩ | h0
  · refine ev_pos h0 ?_
    rcases encAns_eq d m with ⟨g0, hd1, hd5, hm, ge⟩ | g0
    · rw [he, ge]
      exact both_j0 (c := c.toNat) (d := d.toNat) (by omega) (by omega) hl hm
    · rw [show ((encAns d m).2 != 0) = true by simpa using g0]
      exact stop _ _
  · exact ev_neg h0 (stop _ _)
theorem both_pure (c d : Int) (l m : List Int) (hc : (Lit.int .i64 c).wf = true) (hd : (Lit.int .i64 d).wf = true) (h0 : l.length ≤ maxLen ∧ ∀ x ∈ l, (fun n : Int => (Lit.int .i64 n).wf = true) x) (y0 : l.length * 8 ≤ 140737488351232) (h1 : m.length ≤ maxLen ∧ ∀ x ∈ m, (fun n : Int => (Lit.int .i64 n).wf = true) x) (y1 : m.length * 8 ≤ 140737488351232) : ∃ k, peristylelaw2_EncodeJoinedIsBoth.f k c d l m = some true := by
  obtain ⟨K, h⟩ := both_ev c d l m
  exact ⟨K, h K (Nat.le_refl _)⟩
end Go.Proofs.Ythhdihnaicggiaa.J
