/- Printed by a program of this session: Lean functions that answer as the Go functions do, with the proofs of it. No conditions beyond those in each theorem. -/
import Derived.Test.YthhdihnaicggiaaKP1
namespace Go.Proofs.Ythhdihnaicggiaa.K
open Go.RowKit Go.Proofs.YthhdihnaicggiaaW.PrintWords Go.Proofs.YthhdihnaicggiaaW.PrintLast Go.Proofs.YthhdihnaicggiaaW.PrintMore
attribute [local go_sem] max2_int min2_int max_two min_two max_three min_three max_four min_four   -- for this text's walks alone
set_option linter.unusedVariables false
set_option linter.unusedSimpArgs false
mutual
def q_runs.l0 : Nat → List Int → List Int → Int → Option (List Int)
 | 0, _, _, _ => none
 | k + 1, x0, x3, x4 => if x4 < (x0.length : Int) then (q_runs.l1 k x0 x3 x4 x4) else (some x3)
def q_runs.l1 : Nat → List Int → List Int → Int → Int → Option (List Int)
 | 0, _, _, _, _ => none
 | k + 1, x0, x3, x4, x5 => if x5 < (x0.length : Int) then (if 0 ≤ x5 then (if 0 ≤ x4 then (if x4 < (x0.length : Int) then (if (rd x0 x5) = (rd x0 x4) then (q_runs.l1 k x0 x3 x4 (wrap64 (x5 + 1))) else ((q_number.f k (rd x0 x4)).bind fun t411 => (if x3.length + t411.length < 140737488355328 then ((some (x3 ++ t411 : List Int)).bind fun y414 => ((q_count.f k (wrap64 (x5 - x4))).bind fun t417 => (if y414.length + t417.length < 140737488355328 then (q_runs.l0 k x0 (y414 ++ t417) x5) else (none)))) else (none)))) else (none)) else (none)) else (none)) else (if 0 ≤ x4 then (if x4 < (x0.length : Int) then ((q_number.f k (rd x0 x4)).bind fun t424 => (if x3.length + t424.length < 140737488355328 then ((some (x3 ++ t424 : List Int)).bind fun y427 => ((q_count.f k (wrap64 (x5 - x4))).bind fun t430 => (if y427.length + t430.length < 140737488355328 then (q_runs.l0 k x0 (y427 ++ t430) x5) else (none)))) else (none))) else (none)) else (none))
end
def q_runs.f (k : Nat) (l0 : List Int) : Option (List Int) := q_runs.l0 k l0 ([] : List Int) 0
theorem q_runs.mono_l : ∀ k, (∀ y0 y1 y2, LeO (q_runs.l0 k y0 y1 y2) (q_runs.l0 (k + 1) y0 y1 y2)) ∧ (∀ y0 y1 y2 y3, LeO (q_runs.l1 k y0 y1 y2 y3) (q_runs.l1 (k + 1) y0 y1 y2 y3))
 | 0 => ⟨fun _ _ _ r h => by simp [q_runs.l0] at h, fun _ _ _ _ r h => by simp [q_runs.l1] at h⟩
 | k + 1 => by
  obtain ⟨ih0, ih1⟩ := q_runs.mono_l k
  refine ⟨?_, ?_⟩ <;> intros
  all_goals (first | unfold q_runs.l0 | unfold q_runs.l1)
  all_goals
   repeat' first
   | (with_reducible exact ih0 _ _ _)
   | (with_reducible exact ih1 _ _ _ _)
   | (with_reducible exact q_count.mono _ _)
   | (with_reducible exact q_number.mono _ _)
   | (with_reducible exact LeO.refl _)
   | (with_reducible refine LeO.ite ?_ ?_)
   | (with_reducible refine LeO.bind ?_ (fun _ => ?_))
theorem q_runs.mono : ∀ a0 k, LeO (q_runs.f k a0) (q_runs.f (k + 1) a0) := by
 intro a0 k
 obtain ⟨ih0, ih1⟩ := q_runs.mono_l k
 unfold q_runs.f
 repeat' first
  | (with_reducible exact ih0 _ _ _)
set_option maxHeartbeats 8000000 in
set_option maxRecDepth 100000 in
theorem q_runs.calls (k : Nat) (A0 : Option Addr) (c0 : Nat) (l0 : List Int) (r : List Int) (w : World) (hr0 : Kd.C (Kd.int .i64) w A0 l0.length l0) (hc0 : l0.length ≤ c0) (h : q_runs.f k l0 = some r) :
 Calls Try.prog 82 #[.slice A0 l0.length c0] w fun e w' => ∃ v0_ : Value, e = .returned (v0_) ∧ Kd.R (Kd.int .u8) 5 w' w.heap.size (fun _ => True) v0_ r ∧ Below w.heap.size w w' := by
 have HR0 := Ak hr0
 have HC0 := Ak hc0
 clear hr0 hc0
 have HB := Ak (Below.refl w.heap.size w)
 have H : (q_runs.l0 k l0 ([] : List Int) 0) = some r := h
 clear h
 have H' := Ak H
 clear H
 go_enter Try.func82, Try.ntmps82
 go_wp2
 repeat (go_quiet (fail); try go_wp2)
 go_loopg [3, 4] k (fun kq v3 v4 w' => ∃ (x3_1 : List Int) (x4_1 : Int), v4 = .int .i64 x4_1 ∧ Aside0 (q_runs.l0 kq l0 x3_1 x4_1 = some r) ∧ Aside0 (kq ≤ k) ∧ Aside0 (Kd.R (Kd.int .u8) 5 w' w.heap.size (fun _ => True) v3 x3_1) ∧ Aside0 (Below w.heap.size w w'))
 case atStart => exact ⟨(([] : List Int)), (0), (by rfl), H', ⟨Nat.le_refl _⟩, ⟨by exact Kd.R_nil _ _ _ _ _⟩, ⟨by exact HB.out⟩⟩
 case round =>
  clear H'
  obtain ⟨x3_1, x4_1, rfl, HA, HK1, HO_3, HB⟩ := hrel
  cases gk with
  | zero => exact absurd HA.out (by simp [q_runs.l0])
  | succ k1 =>
   have H := HA.out
   clear HA
   simp only [q_runs.l0] at H
   by_cases c2 : x4_1 < (l0.length : Int)
   ·rw [if_pos c2] at H
    have c2b0 : decide (x4_1 < (l0.length : Int)) = true := decide_eq_true c2
    clear c2
    have H' := Ak H
    clear H
    go_wp2
    repeat (go_quiet (fail); try go_wp2)
    go_loopg [5] k1 (fun kq v5 w' => ∃ (x5_2 : Int), v5 = .int .i64 x5_2 ∧ Aside0 (q_runs.l1 kq l0 x3_1 x4_1 x5_2 = some r) ∧ Aside0 (kq ≤ k1) ∧ Aside0 (Kd.R (Kd.int .u8) 5 w' w.heap.size (fun _ => True) u3 x3_1) ∧ Aside0 (Below w.heap.size w w'))
    case atStart => exact ⟨(x4_1), (by rfl), H', ⟨Nat.le_refl _⟩, ⟨by exact HO_3.out⟩, ⟨by exact HB.out⟩⟩
    case round =>
     clear H'
     try clear c2b0
     obtain ⟨x5_2, rfl, HA, HK2, HO_3, HB⟩ := hrel
     cases gk with
     | zero => exact absurd HA.out (by simp [q_runs.l1])
     | succ k2 =>
      have H := HA.out
      clear HA
      simp only [q_runs.l1] at H
      by_cases c3 : x5_2 < (l0.length : Int)
      ·rw [if_pos c3] at H
       have c3b0 : decide (x5_2 < (l0.length : Int)) = true := decide_eq_true c3
       clear c3
       by_cases c4 : 0 ≤ x5_2
       ·rw [if_pos c4] at H
        have c4b0 : decide (0 ≤ x5_2) = true := decide_eq_true c4
        clear c4
        by_cases c5 : 0 ≤ x4_1
        ·rw [if_pos c5] at H
         have c5b0 : decide (0 ≤ x4_1) = true := decide_eq_true c5
         clear c5
         by_cases c6 : x4_1 < (l0.length : Int)
         ·rw [if_pos c6] at H
          have c6b0 : decide (x4_1 < (l0.length : Int)) = true := decide_eq_true c6
          clear c6
          by_cases c7 : (rd l0 x5_2) = (rd l0 x4_1)
          ·rw [if_pos c7] at H
           have c7b0 : ((rd l0 x5_2) == (rd l0 x4_1)) = true := beq_iff_eq.mpr c7
           have c7b1 : ((rd l0 x5_2) != (rd l0 x4_1)) = false := bne_eq_false_iff_eq.mpr c7
           clear c7
           have H' := Ak H
           clear H
           have p408 : 0 ≤ (x5_2 : Int) := of_decide_eq_true (by (with_reducible assumption))
           have q408 : x5_2 < (l0.length : Int) := of_decide_eq_true (by (with_reducible assumption))
           obtain ⟨ad408, e408, hx408_0⟩ := Kd.at_int HR0.out x5_2 p408 q408
           cases e408
           replace hx408_0 := (HB.out.cell (World.block_lt_of_cell? w _ hx408_0)).trans hx408_0
           replace p408 := eq_true p408
           replace q408 := eq_true q408
           have p409 : 0 ≤ (x4_1 : Int) := of_decide_eq_true (by (with_reducible assumption))
           have q409 : x4_1 < (l0.length : Int) := of_decide_eq_true (by (with_reducible assumption))
           obtain ⟨ad409, e409, hx409_0⟩ := Kd.at_int HR0.out x4_1 p409 q409
           obtain rfl : ad408 = ad409 := (by injection e409)
           replace hx409_0 := (HB.out.cell (World.block_lt_of_cell? w _ hx409_0)).trans hx409_0
           replace p409 := eq_true p409
           replace q409 := eq_true q409
           go_wp2
           repeat (go_quiet (fail); try go_wp2)
           go_roundg k2
           case measure => have := HK1.out; have := HK2.out; omega
           case rel => exact ⟨(wrap64 (x5_2 + 1)), (by rfl), H', ⟨by have := HK1.out; have := HK2.out; omega⟩, ⟨by (with_reducible repeat (apply Kd.R_drewN)); exact HO_3.out⟩, ⟨by repeat ((with_reducible first | exact HB.out | apply pw_below_drewN))⟩⟩
          ·rw [if_neg c7] at H
           have c7b0 : ((rd l0 x5_2) == (rd l0 x4_1)) = false := beq_eq_false_iff_ne.mpr c7
           have c7b1 : ((rd l0 x5_2) != (rd l0 x4_1)) = true := bne_iff_ne.mpr c7
           replace H := Option.bind_eq_some_iff.mp H
           obtain ⟨t411, A80, H⟩ := H
           replace H : (if x3_1.length + t411.length < 140737488355328 then ((some (x3_1 ++ t411 : List Int)).bind fun y414 => ((q_count.f k2 (wrap64 (x5_2 - x4_1))).bind fun t417 => (if y414.length + t417.length < 140737488355328 then (q_runs.l0 k2 l0 (y414 ++ t417) x5_2) else (none)))) else (none)) = some r := H
           have A8 := Ak A80
           clear A80
           by_cases c9 : x3_1.length + t411.length < 140737488355328
           ·rw [if_pos c9] at H
            have LMc9 := Ak c9
            clear c9
            obtain ⟨y414, hy414⟩ : ∃ y_ : List Int, y_ = (x3_1 ++ t411) := ⟨_, rfl⟩
            replace H : ((q_count.f k2 (wrap64 (x5_2 - x4_1))).bind fun t417 => (if y414.length + t417.length < 140737488355328 then (q_runs.l0 k2 l0 (y414 ++ t417) x5_2) else (none))) = some r := by (have H2_ := (Option.bind_some _ _).symm.trans H; rw [hy414]; with_reducible exact H2_)
            have Ny414 := Ak hy414
            clear hy414
            replace H := Option.bind_eq_some_iff.mp H
            obtain ⟨t417, A100, H⟩ := H
            replace H : (if y414.length + t417.length < 140737488355328 then (q_runs.l0 k2 l0 (y414 ++ t417) x5_2) else (none)) = some r := H
            have A10 := Ak A100
            clear A100
            by_cases c11 : y414.length + t417.length < 140737488355328
            ·rw [if_pos c11] at H
             have LMc11 := Ak c11
             clear c11
             obtain ⟨y420, hy420⟩ : ∃ y_ : List Int, y_ = (y414 ++ t417) := ⟨_, rfl⟩
             replace H : (q_runs.l0 k2 l0 y420 x5_2) = some r := by (rw [hy420]; with_reducible exact H)
             have Ny420 := Ak hy420
             clear hy420
             have H' := Ak H
             clear H
             have p408 : 0 ≤ (x5_2 : Int) := of_decide_eq_true (by (with_reducible assumption))
             have q408 : x5_2 < (l0.length : Int) := of_decide_eq_true (by (with_reducible assumption))
             obtain ⟨ad408, e408, hx408_0⟩ := Kd.at_int HR0.out x5_2 p408 q408
             cases e408
             replace hx408_0 := (HB.out.cell (World.block_lt_of_cell? w _ hx408_0)).trans hx408_0
             replace p408 := eq_true p408
             replace q408 := eq_true q408
             have p409 : 0 ≤ (x4_1 : Int) := of_decide_eq_true (by (with_reducible assumption))
             have q409 : x4_1 < (l0.length : Int) := of_decide_eq_true (by (with_reducible assumption))
             obtain ⟨ad409, e409, hx409_0⟩ := Kd.at_int HR0.out x4_1 p409 q409
             obtain rfl : ad408 = ad409 := (by injection e409)
             replace hx409_0 := (HB.out.cell (World.block_lt_of_cell? w _ hx409_0)).trans hx409_0
             replace p409 := eq_true p409
             replace q409 := eq_true q409
             have p410 : 0 ≤ (x4_1 : Int) := of_decide_eq_true (by (with_reducible assumption))
             have q410 : x4_1 < (l0.length : Int) := of_decide_eq_true (by (with_reducible assumption))
             obtain ⟨ad410, e410, hx410_0⟩ := Kd.at_int HR0.out x4_1 p410 q410
             obtain rfl : ad408 = ad410 := (by injection e410)
             replace hx410_0 := (HB.out.cell (World.block_lt_of_cell? w _ hx410_0)).trans hx410_0
             replace p410 := eq_true p410
             replace q410 := eq_true q410
             go_wp2_with (first | (go_at_call 81; (with_reducible refine (q_number.calls k2 (rd l0 x4_1) t411 _ A8.out).mono ?_); rintro e w12 ⟨v412, rfl, ho0, hb⟩; have n0_ := Ak (Kd.R_elder' (by exact HO_3.out) (Kd.R_base ho0) hb); have n1_ := Ak (Kd.R_lower (Kd.R_new' ho0 (Kd.R_lt (by exact HO_3.out))) (below_size (by repeat (first | (with_reducible first | exact HB.out | apply below_alloc | apply pw_below_drewN | apply below_drew1) | exact HB.out)))); have n2_ := Ak (below_step (by repeat (first | (with_reducible first | exact HB.out | apply below_alloc | apply pw_below_drewN | apply below_drew1) | exact HB.out)) hb); clear HO_3 HB; have HO_3 := n0_; have HO413 := n1_; have HB := n2_; clear n0_ n1_ n2_; obtain ⟨Ao14, co14, eo14⟩ := Kd.R_slice HO413.out; subst eo14) | ((with_reducible refine gate_builtin (b := .append) (xs := #[.tmp 28, .tmp 33]) rfl ?_); at_builtin; refine Kd.R_append_rows (Kd.int .u8) (w0 := w) w.heap.size rfl (.tmp 28) (.tmp 33) 27 5 (.int .u8 0) 1 rfl Try.underlying27 info5 rfl (by decide) (by omega) u3 x3_1 t411 _ _ _ (fun k_ => some k_ ≠ (.slice Ao14 t411.length co14 : Value).ownBlock) (fun _ => False) rfl rfl ?aO ?aR (fun _ _ h => h) (fun _ h => h.elim) ?aF ?aB ?aS ?aL ?_; (case aR => repeat (first | exact (Kd.R_reads' HO413.out).2.2 | (with_reducible refine Kd.C_alloc ?_ _) | (with_reducible refine Kd.C_drewN ?_ _) | (with_reducible refine Kd.C_drew ?_))); (case aB => exact (by repeat (first | (with_reducible first | exact HB.out | apply below_alloc | apply pw_below_drewN | apply below_drew1) | exact HB.out))); (case aF => exact (fun k_ hk => Kd.fresh' (Kd.R_lt (by exact HO413.out)) k_ hk)); (case aO => exact (by exact Kd.R_mono HO_3.out (fun _ hk => hk.2))); (case aS => exact (below_size (by repeat (first | (with_reducible first | exact HB.out | apply below_alloc | apply pw_below_drewN | apply below_drew1) | exact HB.out)))); (case aL => have := LMc9.out; omega); intro v415 w13 ho hb hg hat; rw [← Ny414.out] at ho; have n0_ := Ak (Kd.R_after (ok := (fun _ => True)) (by exact HO413.out) hg hat); have n1_ := Ak (hb); have n2_ := Ak (ho); clear HO413 HB HO_3; have HO413 := n0_; have HB := n1_; have HO416 := n2_; clear n0_ n1_ n2_ ho hb hg hat) | (go_at_call 55; (with_reducible refine (q_count.calls k2 (wrap64 (x5_2 - x4_1)) t417 _ A10.out).mono ?_); rintro e w15 ⟨v418, rfl, ho0, hb⟩; have n0_ := Ak (Kd.R_elder' (by exact HO413.out) (Kd.R_base ho0) hb); have n1_ := Ak (Kd.R_elder' (by exact HO416.out) (Kd.R_base ho0) hb); have n2_ := Ak (Kd.R_lower (Kd.R_new' (Kd.R_new' ho0 (Kd.R_lt (by exact HO413.out))) (Kd.R_lt (by exact HO416.out))) (below_size (by repeat (first | (with_reducible first | exact HB.out | apply below_alloc | apply pw_below_drewN | apply below_drew1) | exact HB.out)))); have n3_ := Ak (below_step (by repeat (first | (with_reducible first | exact HB.out | apply below_alloc | apply pw_below_drewN | apply below_drew1) | exact HB.out)) hb); clear HO413 HO416 HB; have HO413 := n0_; have HO416 := n1_; have HO419 := n2_; have HB := n3_; clear n0_ n1_ n2_ n3_; obtain ⟨Ao17, co17, eo17⟩ := Kd.R_slice HO419.out; subst eo17) | ((with_reducible refine gate_builtin (b := .append) (xs := #[.tmp 34, .tmp 38]) rfl ?_); at_builtin; refine Kd.R_append_rows (Kd.int .u8) (w0 := w) w.heap.size rfl (.tmp 34) (.tmp 38) 27 5 (.int .u8 0) 1 rfl Try.underlying27 info5 rfl (by decide) (by omega) v415 y414 t417 _ _ _ (fun k_ => some k_ ≠ (.slice Ao14 t411.length co14 : Value).ownBlock ∧ some k_ ≠ (.slice Ao17 t417.length co17 : Value).ownBlock) (fun _ => False) rfl rfl ?aO ?aR (fun _ _ h => h) (fun _ h => h.elim) ?aF ?aB ?aS ?aL ?_; (case aR => repeat (first | exact (Kd.R_reads' HO419.out).2.2 | (with_reducible refine Kd.C_alloc ?_ _) | (with_reducible refine Kd.C_drewN ?_ _) | (with_reducible refine Kd.C_drew ?_))); (case aB => exact (by repeat (first | (with_reducible first | exact HB.out | apply below_alloc | apply pw_below_drewN | apply below_drew1) | exact HB.out))); (case aF => exact (fun k_ hk => ⟨Kd.fresh' (Kd.R_lt (by exact HO413.out)) k_ hk, Kd.fresh' (Kd.R_lt (by exact HO419.out)) k_ hk⟩)); (case aO => exact (by exact HO416.out)); (case aS => exact (below_size (by repeat (first | (with_reducible first | exact HB.out | apply below_alloc | apply pw_below_drewN | apply below_drew1) | exact HB.out)))); (case aL => have := LMc11.out; omega); intro v421 w16 ho hb hg hat; rw [← Ny420.out] at ho; have n0_ := Ak (Kd.R_after (ok := (fun k_ => some k_ ≠ (.slice Ao17 t417.length co17 : Value).ownBlock)) (by exact Kd.R_mono HO413.out (fun _ hk => ⟨hk.2, hk.1.2⟩)) hg hat); have n1_ := Ak (Kd.R_after (ok := (fun k_ => some k_ ≠ (.slice Ao14 t411.length co14 : Value).ownBlock)) (by exact Kd.R_mono HO419.out (fun _ hk => ⟨hk.1.2, hk.2⟩)) hg hat); have n2_ := Ak (hb); have n3_ := Ak (ho); clear HO413 HO419 HB HO416; have HO413 := n0_; have HO419 := n1_; have HB := n2_; have HO422 := n3_; clear n0_ n1_ n2_ n3_ ho hb hg hat))
             repeat (go_quiet (first | (go_at_call 81; (with_reducible refine (q_number.calls k2 (rd l0 x4_1) t411 _ A8.out).mono ?_); rintro e w12 ⟨v412, rfl, ho0, hb⟩; have n0_ := Ak (Kd.R_elder' (by exact HO_3.out) (Kd.R_base ho0) hb); have n1_ := Ak (Kd.R_lower (Kd.R_new' ho0 (Kd.R_lt (by exact HO_3.out))) (below_size (by repeat (first | (with_reducible first | exact HB.out | apply below_alloc | apply pw_below_drewN | apply below_drew1) | exact HB.out)))); have n2_ := Ak (below_step (by repeat (first | (with_reducible first | exact HB.out | apply below_alloc | apply pw_below_drewN | apply below_drew1) | exact HB.out)) hb); clear HO_3 HB; have HO_3 := n0_; have HO413 := n1_; have HB := n2_; clear n0_ n1_ n2_; obtain ⟨Ao14, co14, eo14⟩ := Kd.R_slice HO413.out; subst eo14) | ((with_reducible refine gate_builtin (b := .append) (xs := #[.tmp 28, .tmp 33]) rfl ?_); at_builtin; refine Kd.R_append_rows (Kd.int .u8) (w0 := w) w.heap.size rfl (.tmp 28) (.tmp 33) 27 5 (.int .u8 0) 1 rfl Try.underlying27 info5 rfl (by decide) (by omega) u3 x3_1 t411 _ _ _ (fun k_ => some k_ ≠ (.slice Ao14 t411.length co14 : Value).ownBlock) (fun _ => False) rfl rfl ?aO ?aR (fun _ _ h => h) (fun _ h => h.elim) ?aF ?aB ?aS ?aL ?_; (case aR => repeat (first | exact (Kd.R_reads' HO413.out).2.2 | (with_reducible refine Kd.C_alloc ?_ _) | (with_reducible refine Kd.C_drewN ?_ _) | (with_reducible refine Kd.C_drew ?_))); (case aB => exact (by repeat (first | (with_reducible first | exact HB.out | apply below_alloc | apply pw_below_drewN | apply below_drew1) | exact HB.out))); (case aF => exact (fun k_ hk => Kd.fresh' (Kd.R_lt (by exact HO413.out)) k_ hk)); (case aO => exact (by exact Kd.R_mono HO_3.out (fun _ hk => hk.2))); (case aS => exact (below_size (by repeat (first | (with_reducible first | exact HB.out | apply below_alloc | apply pw_below_drewN | apply below_drew1) | exact HB.out)))); (case aL => have := LMc9.out; omega); intro v415 w13 ho hb hg hat; rw [← Ny414.out] at ho; have n0_ := Ak (Kd.R_after (ok := (fun _ => True)) (by exact HO413.out) hg hat); have n1_ := Ak (hb); have n2_ := Ak (ho); clear HO413 HB HO_3; have HO413 := n0_; have HB := n1_; have HO416 := n2_; clear n0_ n1_ n2_ ho hb hg hat) | (go_at_call 55; (with_reducible refine (q_count.calls k2 (wrap64 (x5_2 - x4_1)) t417 _ A10.out).mono ?_); rintro e w15 ⟨v418, rfl, ho0, hb⟩; have n0_ := Ak (Kd.R_elder' (by exact HO413.out) (Kd.R_base ho0) hb); have n1_ := Ak (Kd.R_elder' (by exact HO416.out) (Kd.R_base ho0) hb); have n2_ := Ak (Kd.R_lower (Kd.R_new' (Kd.R_new' ho0 (Kd.R_lt (by exact HO413.out))) (Kd.R_lt (by exact HO416.out))) (below_size (by repeat (first | (with_reducible first | exact HB.out | apply below_alloc | apply pw_below_drewN | apply below_drew1) | exact HB.out)))); have n3_ := Ak (below_step (by repeat (first | (with_reducible first | exact HB.out | apply below_alloc | apply pw_below_drewN | apply below_drew1) | exact HB.out)) hb); clear HO413 HO416 HB; have HO413 := n0_; have HO416 := n1_; have HO419 := n2_; have HB := n3_; clear n0_ n1_ n2_ n3_; obtain ⟨Ao17, co17, eo17⟩ := Kd.R_slice HO419.out; subst eo17) | ((with_reducible refine gate_builtin (b := .append) (xs := #[.tmp 34, .tmp 38]) rfl ?_); at_builtin; refine Kd.R_append_rows (Kd.int .u8) (w0 := w) w.heap.size rfl (.tmp 34) (.tmp 38) 27 5 (.int .u8 0) 1 rfl Try.underlying27 info5 rfl (by decide) (by omega) v415 y414 t417 _ _ _ (fun k_ => some k_ ≠ (.slice Ao14 t411.length co14 : Value).ownBlock ∧ some k_ ≠ (.slice Ao17 t417.length co17 : Value).ownBlock) (fun _ => False) rfl rfl ?aO ?aR (fun _ _ h => h) (fun _ h => h.elim) ?aF ?aB ?aS ?aL ?_; (case aR => repeat (first | exact (Kd.R_reads' HO419.out).2.2 | (with_reducible refine Kd.C_alloc ?_ _) | (with_reducible refine Kd.C_drewN ?_ _) | (with_reducible refine Kd.C_drew ?_))); (case aB => exact (by repeat (first | (with_reducible first | exact HB.out | apply below_alloc | apply pw_below_drewN | apply below_drew1) | exact HB.out))); (case aF => exact (fun k_ hk => ⟨Kd.fresh' (Kd.R_lt (by exact HO413.out)) k_ hk, Kd.fresh' (Kd.R_lt (by exact HO419.out)) k_ hk⟩)); (case aO => exact (by exact HO416.out)); (case aS => exact (below_size (by repeat (first | (with_reducible first | exact HB.out | apply below_alloc | apply pw_below_drewN | apply below_drew1) | exact HB.out)))); (case aL => have := LMc11.out; omega); intro v421 w16 ho hb hg hat; rw [← Ny420.out] at ho; have n0_ := Ak (Kd.R_after (ok := (fun k_ => some k_ ≠ (.slice Ao17 t417.length co17 : Value).ownBlock)) (by exact Kd.R_mono HO413.out (fun _ hk => ⟨hk.2, hk.1.2⟩)) hg hat); have n1_ := Ak (Kd.R_after (ok := (fun k_ => some k_ ≠ (.slice Ao14 t411.length co14 : Value).ownBlock)) (by exact Kd.R_mono HO419.out (fun _ hk => ⟨hk.1.2, hk.2⟩)) hg hat); have n2_ := Ak (hb); have n3_ := Ak (ho); clear HO413 HO419 HB HO416; have HO413 := n0_; have HO419 := n1_; have HB := n2_; have HO422 := n3_; clear n0_ n1_ n2_ n3_ ho hb hg hat)); try go_wp2_with (first | (go_at_call 81; (with_reducible refine (q_number.calls k2 (rd l0 x4_1) t411 _ A8.out).mono ?_); rintro e w12 ⟨v412, rfl, ho0, hb⟩; have n0_ := Ak (Kd.R_elder' (by (with_reducible repeat (apply Kd.R_drewN)); exact HO_3.out) (Kd.R_base ho0) hb); have n1_ := Ak (Kd.R_lower (Kd.R_new' ho0 (Kd.R_lt (by (with_reducible repeat (apply Kd.R_drewN)); exact HO_3.out))) (below_size (by repeat ((with_reducible first | exact HB.out | apply pw_below_drewN))))); have n2_ := Ak (below_step (by repeat ((with_reducible first | exact HB.out | apply pw_below_drewN))) hb); clear HO_3 HB; have HO_3 := n0_; have HO413 := n1_; have HB := n2_; clear n0_ n1_ n2_; (try clear hb); (try clear ho0); obtain ⟨Ao14, co14, eo14⟩ := Kd.R_slice HO413.out; subst eo14) | ((with_reducible refine gate_builtin (b := .append) (xs := #[.tmp 28, .tmp 33]) rfl ?_); at_builtin; refine Kd.R_append_rows (Kd.int .u8) (w0 := w) w.heap.size rfl (.tmp 28) (.tmp 33) 27 5 (.int .u8 0) 1 rfl Try.underlying27 info5 rfl (by decide) (by omega) u3 x3_1 t411 _ _ _ (fun k_ => some k_ ≠ (.slice Ao14 t411.length co14 : Value).ownBlock) (fun _ => False) rfl rfl ?aO ?aR (fun _ _ h => h) (fun _ h => h.elim) ?aF ?aB ?aS ?aL ?_; (case aR => repeat (exact (Kd.R_reads' HO413.out).2.2)); (case aB => exact (by exact HB.out)); (case aF => exact (fun k_ hk => Kd.fresh' (Kd.R_lt (by exact HO413.out)) k_ hk)); (case aO => exact (by exact Kd.R_mono HO_3.out (fun _ hk => hk.2))); (case aS => exact (below_size (by exact HB.out))); (case aL => have := LMc9.out; omega); intro v415 w13 ho hb hg hat; rw [← Ny414.out] at ho; have n0_ := Ak (Kd.R_after (ok := (fun _ => True)) (by exact HO413.out) hg hat); have n1_ := Ak (hb); have n2_ := Ak (ho); clear HO413 HB HO_3; have HO413 := n0_; have HB := n1_; have HO416 := n2_; clear n0_ n1_ n2_ ho hb hg hat) | (go_at_call 55; (with_reducible refine (q_count.calls k2 (wrap64 (x5_2 - x4_1)) t417 _ A10.out).mono ?_); rintro e w15 ⟨v418, rfl, ho0, hb⟩; have n0_ := Ak (Kd.R_elder' (by exact HO413.out) (Kd.R_base ho0) hb); have n1_ := Ak (Kd.R_elder' (by exact HO416.out) (Kd.R_base ho0) hb); have n2_ := Ak (Kd.R_lower (Kd.R_new' (Kd.R_new' ho0 (Kd.R_lt (by exact HO413.out))) (Kd.R_lt (by exact HO416.out))) (below_size (by exact HB.out))); have n3_ := Ak (below_step (by exact HB.out) hb); clear HO413 HO416 HB; have HO413 := n0_; have HO416 := n1_; have HO419 := n2_; have HB := n3_; clear n0_ n1_ n2_ n3_; (try clear hb); (try clear ho0); obtain ⟨Ao17, co17, eo17⟩ := Kd.R_slice HO419.out; subst eo17) | ((with_reducible refine gate_builtin (b := .append) (xs := #[.tmp 34, .tmp 38]) rfl ?_); at_builtin; refine Kd.R_append_rows (Kd.int .u8) (w0 := w) w.heap.size rfl (.tmp 34) (.tmp 38) 27 5 (.int .u8 0) 1 rfl Try.underlying27 info5 rfl (by decide) (by omega) v415 y414 t417 _ _ _ (fun k_ => some k_ ≠ (.slice Ao14 t411.length co14 : Value).ownBlock ∧ some k_ ≠ (.slice Ao17 t417.length co17 : Value).ownBlock) (fun _ => False) rfl rfl ?aO ?aR (fun _ _ h => h) (fun _ h => h.elim) ?aF ?aB ?aS ?aL ?_; (case aR => repeat (exact (Kd.R_reads' HO419.out).2.2)); (case aB => exact (by exact HB.out)); (case aF => exact (fun k_ hk => ⟨Kd.fresh' (Kd.R_lt (by exact HO413.out)) k_ hk, Kd.fresh' (Kd.R_lt (by exact HO419.out)) k_ hk⟩)); (case aO => exact (by exact HO416.out)); (case aS => exact (below_size (by exact HB.out))); (case aL => have := LMc11.out; omega); intro v421 w16 ho hb hg hat; rw [← Ny420.out] at ho; have n0_ := Ak (Kd.R_after (ok := (fun k_ => some k_ ≠ (.slice Ao17 t417.length co17 : Value).ownBlock)) (by exact Kd.R_mono HO413.out (fun _ hk => ⟨hk.2, hk.1.2⟩)) hg hat); have n1_ := Ak (Kd.R_after (ok := (fun k_ => some k_ ≠ (.slice Ao14 t411.length co14 : Value).ownBlock)) (by exact Kd.R_mono HO419.out (fun _ hk => ⟨hk.1.2, hk.2⟩)) hg hat); have n2_ := Ak (hb); have n3_ := Ak (ho); clear HO413 HO419 HB HO416; have HO413 := n0_; have HO419 := n1_; have HB := n2_; have HO422 := n3_; clear n0_ n1_ n2_ n3_ ho hb hg hat)))
             go_roundg k2
             case measure => have := HK1.out; have := HK2.out; omega
             case rel => exact ⟨(y420), (x5_2), (by rfl), H', ⟨by have := HK1.out; have := HK2.out; omega⟩, ⟨by exact Kd.R_mono HO422.out (fun _ hk => trivial)⟩, ⟨by exact HB.out⟩⟩
            ·rw [if_neg c11] at H
             exact absurd H (by simp)
           ·rw [if_neg c9] at H
            exact absurd H (by simp)
         ·rw [if_neg c6] at H
          exact absurd H (by simp)
        ·rw [if_neg c5] at H
         exact absurd H (by simp)
       ·rw [if_neg c4] at H
        exact absurd H (by simp)
      ·rw [if_neg c3] at H
       have c3b0 : decide (x5_2 < (l0.length : Int)) = false := decide_eq_false c3
       clear c3
       by_cases c18 : 0 ≤ x4_1
       ·rw [if_pos c18] at H
        have c18b0 : decide (0 ≤ x4_1) = true := decide_eq_true c18
        clear c18
        by_cases c19 : x4_1 < (l0.length : Int)
        ·rw [if_pos c19] at H
         have c19b0 : decide (x4_1 < (l0.length : Int)) = true := decide_eq_true c19
         clear c19
         replace H := Option.bind_eq_some_iff.mp H
         obtain ⟨t424, A200, H⟩ := H
         replace H : (if x3_1.length + t424.length < 140737488355328 then ((some (x3_1 ++ t424 : List Int)).bind fun y427 => ((q_count.f k2 (wrap64 (x5_2 - x4_1))).bind fun t430 => (if y427.length + t430.length < 140737488355328 then (q_runs.l0 k2 l0 (y427 ++ t430) x5_2) else (none)))) else (none)) = some r := H
         have A20 := Ak A200
         clear A200
         by_cases c21 : x3_1.length + t424.length < 140737488355328
         ·rw [if_pos c21] at H
          have LMc21 := Ak c21
          clear c21
          obtain ⟨y427, hy427⟩ : ∃ y_ : List Int, y_ = (x3_1 ++ t424) := ⟨_, rfl⟩
          replace H : ((q_count.f k2 (wrap64 (x5_2 - x4_1))).bind fun t430 => (if y427.length + t430.length < 140737488355328 then (q_runs.l0 k2 l0 (y427 ++ t430) x5_2) else (none))) = some r := by (have H2_ := (Option.bind_some _ _).symm.trans H; rw [hy427]; with_reducible exact H2_)
          have Ny427 := Ak hy427
          clear hy427
          replace H := Option.bind_eq_some_iff.mp H
          obtain ⟨t430, A220, H⟩ := H
          replace H : (if y427.length + t430.length < 140737488355328 then (q_runs.l0 k2 l0 (y427 ++ t430) x5_2) else (none)) = some r := H
          have A22 := Ak A220
          clear A220
          by_cases c23 : y427.length + t430.length < 140737488355328
          ·rw [if_pos c23] at H
           have LMc23 := Ak c23
           clear c23
           obtain ⟨y433, hy433⟩ : ∃ y_ : List Int, y_ = (y427 ++ t430) := ⟨_, rfl⟩
           replace H : (q_runs.l0 k2 l0 y433 x5_2) = some r := by (rw [hy433]; with_reducible exact H)
           have Ny433 := Ak hy433
           clear hy433
           have H' := Ak H
           clear H
           have p423 : 0 ≤ (x4_1 : Int) := of_decide_eq_true (by (with_reducible assumption))
           have q423 : x4_1 < (l0.length : Int) := of_decide_eq_true (by (with_reducible assumption))
           obtain ⟨ad423, e423, hx423_0⟩ := Kd.at_int HR0.out x4_1 p423 q423
           cases e423
           replace hx423_0 := (HB.out.cell (World.block_lt_of_cell? w _ hx423_0)).trans hx423_0
           replace p423 := eq_true p423
           replace q423 := eq_true q423
           go_wp2_with (first | (go_at_call 81; (with_reducible refine (q_number.calls k2 (rd l0 x4_1) t424 _ A20.out).mono ?_); rintro e w24 ⟨v425, rfl, ho0, hb⟩; have n0_ := Ak (Kd.R_elder' (by exact HO_3.out) (Kd.R_base ho0) hb); have n1_ := Ak (Kd.R_lower (Kd.R_new' ho0 (Kd.R_lt (by exact HO_3.out))) (below_size (by repeat (first | (with_reducible first | exact HB.out | apply below_alloc | apply pw_below_drewN | apply below_drew1) | exact HB.out)))); have n2_ := Ak (below_step (by repeat (first | (with_reducible first | exact HB.out | apply below_alloc | apply pw_below_drewN | apply below_drew1) | exact HB.out)) hb); clear HO_3 HB; have HO_3 := n0_; have HO426 := n1_; have HB := n2_; clear n0_ n1_ n2_; obtain ⟨Ao26, co26, eo26⟩ := Kd.R_slice HO426.out; subst eo26) | ((with_reducible refine gate_builtin (b := .append) (xs := #[.tmp 28, .tmp 33]) rfl ?_); at_builtin; refine Kd.R_append_rows (Kd.int .u8) (w0 := w) w.heap.size rfl (.tmp 28) (.tmp 33) 27 5 (.int .u8 0) 1 rfl Try.underlying27 info5 rfl (by decide) (by omega) u3 x3_1 t424 _ _ _ (fun k_ => some k_ ≠ (.slice Ao26 t424.length co26 : Value).ownBlock) (fun _ => False) rfl rfl ?aO ?aR (fun _ _ h => h) (fun _ h => h.elim) ?aF ?aB ?aS ?aL ?_; (case aR => repeat (first | exact (Kd.R_reads' HO426.out).2.2 | (with_reducible refine Kd.C_alloc ?_ _) | (with_reducible refine Kd.C_drewN ?_ _) | (with_reducible refine Kd.C_drew ?_))); (case aB => exact (by repeat (first | (with_reducible first | exact HB.out | apply below_alloc | apply pw_below_drewN | apply below_drew1) | exact HB.out))); (case aF => exact (fun k_ hk => Kd.fresh' (Kd.R_lt (by exact HO426.out)) k_ hk)); (case aO => exact (by exact Kd.R_mono HO_3.out (fun _ hk => hk.2))); (case aS => exact (below_size (by repeat (first | (with_reducible first | exact HB.out | apply below_alloc | apply pw_below_drewN | apply below_drew1) | exact HB.out)))); (case aL => have := LMc21.out; omega); intro v428 w25 ho hb hg hat; rw [← Ny427.out] at ho; have n0_ := Ak (Kd.R_after (ok := (fun _ => True)) (by exact HO426.out) hg hat); have n1_ := Ak (hb); have n2_ := Ak (ho); clear HO426 HB HO_3; have HO426 := n0_; have HB := n1_; have HO429 := n2_; clear n0_ n1_ n2_ ho hb hg hat) | (go_at_call 55; (with_reducible refine (q_count.calls k2 (wrap64 (x5_2 - x4_1)) t430 _ A22.out).mono ?_); rintro e w27 ⟨v431, rfl, ho0, hb⟩; have n0_ := Ak (Kd.R_elder' (by exact HO426.out) (Kd.R_base ho0) hb); have n1_ := Ak (Kd.R_elder' (by exact HO429.out) (Kd.R_base ho0) hb); have n2_ := Ak (Kd.R_lower (Kd.R_new' (Kd.R_new' ho0 (Kd.R_lt (by exact HO426.out))) (Kd.R_lt (by exact HO429.out))) (below_size (by repeat (first | (with_reducible first | exact HB.out | apply below_alloc | apply pw_below_drewN | apply below_drew1) | exact HB.out)))); have n3_ := Ak (below_step (by repeat (first | (with_reducible first | exact HB.out | apply below_alloc | apply pw_below_drewN | apply below_drew1) | exact HB.out)) hb); clear HO426 HO429 HB; have HO426 := n0_; have HO429 := n1_; have HO432 := n2_; have HB := n3_; clear n0_ n1_ n2_ n3_; obtain ⟨Ao29, co29, eo29⟩ := Kd.R_slice HO432.out; subst eo29) | ((with_reducible refine gate_builtin (b := .append) (xs := #[.tmp 34, .tmp 38]) rfl ?_); at_builtin; refine Kd.R_append_rows (Kd.int .u8) (w0 := w) w.heap.size rfl (.tmp 34) (.tmp 38) 27 5 (.int .u8 0) 1 rfl Try.underlying27 info5 rfl (by decide) (by omega) v428 y427 t430 _ _ _ (fun k_ => some k_ ≠ (.slice Ao26 t424.length co26 : Value).ownBlock ∧ some k_ ≠ (.slice Ao29 t430.length co29 : Value).ownBlock) (fun _ => False) rfl rfl ?aO ?aR (fun _ _ h => h) (fun _ h => h.elim) ?aF ?aB ?aS ?aL ?_; (case aR => repeat (first | exact (Kd.R_reads' HO432.out).2.2 | (with_reducible refine Kd.C_alloc ?_ _) | (with_reducible refine Kd.C_drewN ?_ _) | (with_reducible refine Kd.C_drew ?_))); (case aB => exact (by repeat (first | (with_reducible first | exact HB.out | apply below_alloc | apply pw_below_drewN | apply below_drew1) | exact HB.out))); (case aF => exact (fun k_ hk => ⟨Kd.fresh' (Kd.R_lt (by exact HO426.out)) k_ hk, Kd.fresh' (Kd.R_lt (by exact HO432.out)) k_ hk⟩)); (case aO => exact (by exact HO429.out)); (case aS => exact (below_size (by repeat (first | (with_reducible first | exact HB.out | apply below_alloc | apply pw_below_drewN | apply below_drew1) | exact HB.out)))); (case aL => have := LMc23.out; omega); intro v434 w28 ho hb hg hat; rw [← Ny433.out] at ho; have n0_ := Ak (Kd.R_after (ok := (fun k_ => some k_ ≠ (.slice Ao29 t430.length co29 : Value).ownBlock)) (by exact Kd.R_mono HO426.out (fun _ hk => ⟨hk.2, hk.1.2⟩)) hg hat); have n1_ := Ak (Kd.R_after (ok := (fun k_ => some k_ ≠ (.slice Ao26 t424.length co26 : Value).ownBlock)) (by exact Kd.R_mono HO432.out (fun _ hk => ⟨hk.1.2, hk.2⟩)) hg hat); have n2_ := Ak (hb); have n3_ := Ak (ho); clear HO426 HO432 HB HO429; have HO426 := n0_; have HO432 := n1_; have HB := n2_; have HO435 := n3_; clear n0_ n1_ n2_ n3_ ho hb hg hat))
           repeat (go_quiet (first | (go_at_call 81; (with_reducible refine (q_number.calls k2 (rd l0 x4_1) t424 _ A20.out).mono ?_); rintro e w24 ⟨v425, rfl, ho0, hb⟩; have n0_ := Ak (Kd.R_elder' (by exact HO_3.out) (Kd.R_base ho0) hb); have n1_ := Ak (Kd.R_lower (Kd.R_new' ho0 (Kd.R_lt (by exact HO_3.out))) (below_size (by repeat (first | (with_reducible first | exact HB.out | apply below_alloc | apply pw_below_drewN | apply below_drew1) | exact HB.out)))); have n2_ := Ak (below_step (by repeat (first | (with_reducible first | exact HB.out | apply below_alloc | apply pw_below_drewN | apply below_drew1) | exact HB.out)) hb); clear HO_3 HB; have HO_3 := n0_; have HO426 := n1_; have HB := n2_; clear n0_ n1_ n2_; obtain ⟨Ao26, co26, eo26⟩ := Kd.R_slice HO426.out; subst eo26) | ((with_reducible refine gate_builtin (b := .append) (xs := #[.tmp 28, .tmp 33]) rfl ?_); at_builtin; refine Kd.R_append_rows (Kd.int .u8) (w0 := w) w.heap.size rfl (.tmp 28) (.tmp 33) 27 5 (.int .u8 0) 1 rfl Try.underlying27 info5 rfl (by decide) (by omega) u3 x3_1 t424 _ _ _ (fun k_ => some k_ ≠ (.slice Ao26 t424.length co26 : Value).ownBlock) (fun _ => False) rfl rfl ?aO ?aR (fun _ _ h => h) (fun _ h => h.elim) ?aF ?aB ?aS ?aL ?_; (case aR => repeat (first | exact (Kd.R_reads' HO426.out).2.2 | (with_reducible refine Kd.C_alloc ?_ _) | (with_reducible refine Kd.C_drewN ?_ _) | (with_reducible refine Kd.C_drew ?_))); (case aB => exact (by repeat (first | (with_reducible first | exact HB.out | apply below_alloc | apply pw_below_drewN | apply below_drew1) | exact HB.out))); (case aF => exact (fun k_ hk => Kd.fresh' (Kd.R_lt (by exact HO426.out)) k_ hk)); (case aO => exact (by exact Kd.R_mono HO_3.out (fun _ hk => hk.2))); (case aS => exact (below_size (by repeat (first | (with_reducible first | exact HB.out | apply below_alloc | apply pw_below_drewN | apply below_drew1) | exact HB.out)))); (case aL => have := LMc21.out; omega); intro v428 w25 ho hb hg hat; rw [← Ny427.out] at ho; have n0_ := Ak (Kd.R_after (ok := (fun _ => True)) (by exact HO426.out) hg hat); have n1_ := Ak (hb); have n2_ := Ak (ho); clear HO426 HB HO_3; have HO426 := n0_; have HB := n1_; have HO429 := n2_; clear n0_ n1_ n2_ ho hb hg hat) | (go_at_call 55; (with_reducible refine (q_count.calls k2 (wrap64 (x5_2 - x4_1)) t430 _ A22.out).mono ?_); rintro e w27 ⟨v431, rfl, ho0, hb⟩; have n0_ := Ak (Kd.R_elder' (by exact HO426.out) (Kd.R_base ho0) hb); have n1_ := Ak (Kd.R_elder' (by exact HO429.out) (Kd.R_base ho0) hb); have n2_ := Ak (Kd.R_lower (Kd.R_new' (Kd.R_new' ho0 (Kd.R_lt (by exact HO426.out))) (Kd.R_lt (by exact HO429.out))) (below_size (by repeat (first | (with_reducible first | exact HB.out | apply below_alloc | apply pw_below_drewN | apply below_drew1) | exact HB.out)))); have n3_ := Ak (below_step (by repeat (first | (with_reducible first | exact HB.out | apply below_alloc | apply pw_below_drewN | apply below_drew1) | exact HB.out)) hb); clear HO426 HO429 HB; have HO426 := n0_; have HO429 := n1_; have HO432 := n2_; have HB := n3_; clear n0_ n1_ n2_ n3_; obtain ⟨Ao29, co29, eo29⟩ := Kd.R_slice HO432.out; subst eo29) | ((with_reducible refine gate_builtin (b := .append) (xs := #[.tmp 34, .tmp 38]) rfl ?_); at_builtin; refine Kd.R_append_rows (Kd.int .u8) (w0 := w) w.heap.size rfl (.tmp 34) (.tmp 38) 27 5 (.int .u8 0) 1 rfl Try.underlying27 info5 rfl (by decide) (by omega) v428 y427 t430 _ _ _ (fun k_ => some k_ ≠ (.slice Ao26 t424.length co26 : Value).ownBlock ∧ some k_ ≠ (.slice Ao29 t430.length co29 : Value).ownBlock) (fun _ => False) rfl rfl ?aO ?aR (fun _ _ h => h) (fun _ h => h.elim) ?aF ?aB ?aS ?aL ?_; (case aR => repeat (first | exact (Kd.R_reads' HO432.out).2.2 | (with_reducible refine Kd.C_alloc ?_ _) | (with_reducible refine Kd.C_drewN ?_ _) | (with_reducible refine Kd.C_drew ?_))); (case aB => exact (by repeat (first | (with_reducible first | exact HB.out | apply below_alloc | apply pw_below_drewN | apply below_drew1) | exact HB.out))); (case aF => exact (fun k_ hk => ⟨Kd.fresh' (Kd.R_lt (by exact HO426.out)) k_ hk, Kd.fresh' (Kd.R_lt (by exact HO432.out)) k_ hk⟩)); (case aO => exact (by exact HO429.out)); (case aS => exact (below_size (by repeat (first | (with_reducible first | exact HB.out | apply below_alloc | apply pw_below_drewN | apply below_drew1) | exact HB.out)))); (case aL => have := LMc23.out; omega); intro v434 w28 ho hb hg hat; rw [← Ny433.out] at ho; have n0_ := Ak (Kd.R_after (ok := (fun k_ => some k_ ≠ (.slice Ao29 t430.length co29 : Value).ownBlock)) (by exact Kd.R_mono HO426.out (fun _ hk => ⟨hk.2, hk.1.2⟩)) hg hat); have n1_ := Ak (Kd.R_after (ok := (fun k_ => some k_ ≠ (.slice Ao26 t424.length co26 : Value).ownBlock)) (by exact Kd.R_mono HO432.out (fun _ hk => ⟨hk.1.2, hk.2⟩)) hg hat); have n2_ := Ak (hb); have n3_ := Ak (ho); clear HO426 HO432 HB HO429; have HO426 := n0_; have HO432 := n1_; have HB := n2_; have HO435 := n3_; clear n0_ n1_ n2_ n3_ ho hb hg hat)); try go_wp2_with (first | (go_at_call 81; (with_reducible refine (q_number.calls k2 (rd l0 x4_1) t424 _ A20.out).mono ?_); rintro e w24 ⟨v425, rfl, ho0, hb⟩; have n0_ := Ak (Kd.R_elder' (by (with_reducible repeat (apply Kd.R_drewN)); exact HO_3.out) (Kd.R_base ho0) hb); have n1_ := Ak (Kd.R_lower (Kd.R_new' ho0 (Kd.R_lt (by (with_reducible repeat (apply Kd.R_drewN)); exact HO_3.out))) (below_size (by repeat ((with_reducible first | exact HB.out | apply pw_below_drewN))))); have n2_ := Ak (below_step (by repeat ((with_reducible first | exact HB.out | apply pw_below_drewN))) hb); clear HO_3 HB; have HO_3 := n0_; have HO426 := n1_; have HB := n2_; clear n0_ n1_ n2_; (try clear hb); (try clear ho0); obtain ⟨Ao26, co26, eo26⟩ := Kd.R_slice HO426.out; subst eo26) | ((with_reducible refine gate_builtin (b := .append) (xs := #[.tmp 28, .tmp 33]) rfl ?_); at_builtin; refine Kd.R_append_rows (Kd.int .u8) (w0 := w) w.heap.size rfl (.tmp 28) (.tmp 33) 27 5 (.int .u8 0) 1 rfl Try.underlying27 info5 rfl (by decide) (by omega) u3 x3_1 t424 _ _ _ (fun k_ => some k_ ≠ (.slice Ao26 t424.length co26 : Value).ownBlock) (fun _ => False) rfl rfl ?aO ?aR (fun _ _ h => h) (fun _ h => h.elim) ?aF ?aB ?aS ?aL ?_; (case aR => repeat (exact (Kd.R_reads' HO426.out).2.2)); (case aB => exact (by exact HB.out)); (case aF => exact (fun k_ hk => Kd.fresh' (Kd.R_lt (by exact HO426.out)) k_ hk)); (case aO => exact (by exact Kd.R_mono HO_3.out (fun _ hk => hk.2))); (case aS => exact (below_size (by exact HB.out))); (case aL => have := LMc21.out; omega); intro v428 w25 ho hb hg hat; rw [← Ny427.out] at ho; have n0_ := Ak (Kd.R_after (ok := (fun _ => True)) (by exact HO426.out) hg hat); have n1_ := Ak (hb); have n2_ := Ak (ho); clear HO426 HB HO_3; have HO426 := n0_; have HB := n1_; have HO429 := n2_; clear n0_ n1_ n2_ ho hb hg hat) | (go_at_call 55; (with_reducible refine (q_count.calls k2 (wrap64 (x5_2 - x4_1)) t430 _ A22.out).mono ?_); rintro e w27 ⟨v431, rfl, ho0, hb⟩; have n0_ := Ak (Kd.R_elder' (by exact HO426.out) (Kd.R_base ho0) hb); have n1_ := Ak (Kd.R_elder' (by exact HO429.out) (Kd.R_base ho0) hb); have n2_ := Ak (Kd.R_lower (Kd.R_new' (Kd.R_new' ho0 (Kd.R_lt (by exact HO426.out))) (Kd.R_lt (by exact HO429.out))) (below_size (by exact HB.out))); have n3_ := Ak (below_step (by exact HB.out) hb); clear HO426 HO429 HB; have HO426 := n0_; have HO429 := n1_; have HO432 := n2_; have HB := n3_; clear n0_ n1_ n2_ n3_; (try clear hb); (try clear ho0); obtain ⟨Ao29, co29, eo29⟩ := Kd.R_slice HO432.out; subst eo29) | ((with_reducible refine gate_builtin (b := .append) (xs := #[.tmp 34, .tmp 38]) rfl ?_); at_builtin; refine Kd.R_append_rows (Kd.int .u8) (w0 := w) w.heap.size rfl (.tmp 34) (.tmp 38) 27 5 (.int .u8 0) 1 rfl Try.underlying27 info5 rfl (by decide) (by omega) v428 y427 t430 _ _ _ (fun k_ => some k_ ≠ (.slice Ao26 t424.length co26 : Value).ownBlock ∧ some k_ ≠ (.slice Ao29 t430.length co29 : Value).ownBlock) (fun _ => False) rfl rfl ?aO ?aR (fun _ _ h => h) (fun _ h => h.elim) ?aF ?aB ?aS ?aL ?_; (case aR => repeat (exact (Kd.R_reads' HO432.out).2.2)); (case aB => exact (by exact HB.out)); (case aF => exact (fun k_ hk => ⟨Kd.fresh' (Kd.R_lt (by exact HO426.out)) k_ hk, Kd.fresh' (Kd.R_lt (by exact HO432.out)) k_ hk⟩)); (case aO => exact (by exact HO429.out)); (case aS => exact (below_size (by exact HB.out))); (case aL => have := LMc23.out; omega); intro v434 w28 ho hb hg hat; rw [← Ny433.out] at ho; have n0_ := Ak (Kd.R_after (ok := (fun k_ => some k_ ≠ (.slice Ao29 t430.length co29 : Value).ownBlock)) (by exact Kd.R_mono HO426.out (fun _ hk => ⟨hk.2, hk.1.2⟩)) hg hat); have n1_ := Ak (Kd.R_after (ok := (fun k_ => some k_ ≠ (.slice Ao26 t424.length co26 : Value).ownBlock)) (by exact Kd.R_mono HO432.out (fun _ hk => ⟨hk.1.2, hk.2⟩)) hg hat); have n2_ := Ak (hb); have n3_ := Ak (ho); clear HO426 HO432 HB HO429; have HO426 := n0_; have HO432 := n1_; have HB := n2_; have HO435 := n3_; clear n0_ n1_ n2_ n3_ ho hb hg hat)))
           go_roundg k2
           case measure => have := HK1.out; have := HK2.out; omega
           case rel => exact ⟨(y433), (x5_2), (by rfl), H', ⟨by have := HK1.out; have := HK2.out; omega⟩, ⟨by exact Kd.R_mono HO435.out (fun _ hk => trivial)⟩, ⟨by exact HB.out⟩⟩
          ·rw [if_neg c23] at H
           exact absurd H (by simp)
         ·rw [if_neg c21] at H
          exact absurd H (by simp)
        ·rw [if_neg c19] at H
         exact absurd H (by simp)
       ·rw [if_neg c18] at H
        exact absurd H (by simp)
   ·rw [if_neg c2] at H
    have c2b0 : decide (x4_1 < (l0.length : Int)) = false := decide_eq_false c2
    clear c2
    obtain rfl := Option.some.inj H
    go_wp2
    repeat (go_quiet (fail); try go_wp2)
    go_ret
    exact ⟨_, by rfl, by exact HO_3.out, by exact HB.out⟩
mutual
def q_packed.l0 : Nat → Int → List Int → Int → List Int → Int → Int → Option (List Int)
 | 0, _, _, _, _, _, _ => none
 | k + 1, x1, x5, x6, x17, x18, x19 => if x19 < x18 then (if 0 ≤ x19 then (if x19 < (x17.length : Int) then (q_packed.l1 k x1 x5 x6 (rd x17 x19) (wrap64 (x1 - 1)) x17 x18 x19) else (none)) else (none)) else (some x5)
def q_packed.l1 : Nat → Int → List Int → Int → Int → Int → List Int → Int → Int → Option (List Int)
 | 0, _, _, _, _, _, _, _, _ => none
 | k + 1, x1, x5, x6, x8, x9, x17, x18, x19 => if x9 ≥ 0 then (if 0 ≤ x9 then (if (Go.bits .and .i64 (shr .i64 x8 x9) 1) = 1 then (if 0 ≤ (wrap64 (Int.tdiv x6 8)) then (if (wrap64 (Int.tdiv x6 8)) < (x5.length : Int) then (if 0 ≤ (Int.tmod x6 8) then (q_packed.l1 k x1 (x5.set ((wrap64 (Int.tdiv x6 8)) : Int).toNat (Go.bits .or .u8 (rd x5 (wrap64 (Int.tdiv x6 8))) (shr .u8 128 (Int.tmod x6 8)))) (wrap64 (x6 + 1)) x8 (wrap64 (x9 - 1)) x17 x18 x19) else (none)) else (none)) else (none)) else (q_packed.l1 k x1 x5 (wrap64 (x6 + 1)) x8 (wrap64 (x9 - 1)) x17 x18 x19)) else (none)) else (q_packed.l0 k x1 x5 x6 x17 x18 (wrap64 (x19 + 1)))
end
def q_packed.f (k : Nat) (l0 : List Int) (a1 : Int) : Option (List Int) := if 0 ≤ (wrap64 (Int.tdiv (wrap64 ((wrap64 ((l0.length : Int) * a1)) + 7)) 8)) then (if (wrap64 (Int.tdiv (wrap64 ((wrap64 ((l0.length : Int) * a1)) + 7)) 8) : Int).toNat ≤ 281474976710656 then (q_packed.l0 k a1 (List.replicate (wrap64 (Int.tdiv (wrap64 ((wrap64 ((l0.length : Int) * a1)) + 7)) 8) : Int).toNat 0) 0 l0 (l0.length : Int) 0) else (none)) else (none)
theorem q_packed.mono_l : ∀ k, (∀ y0 y1 y2 y3 y4 y5, LeO (q_packed.l0 k y0 y1 y2 y3 y4 y5) (q_packed.l0 (k + 1) y0 y1 y2 y3 y4 y5)) ∧ (∀ y0 y1 y2 y3 y4 y5 y6 y7, LeO (q_packed.l1 k y0 y1 y2 y3 y4 y5 y6 y7) (q_packed.l1 (k + 1) y0 y1 y2 y3 y4 y5 y6 y7))
 | 0 => ⟨fun _ _ _ _ _ _ r h => by simp [q_packed.l0] at h, fun _ _ _ _ _ _ _ _ r h => by simp [q_packed.l1] at h⟩
 | k + 1 => by
  obtain ⟨ih0, ih1⟩ := q_packed.mono_l k
  refine ⟨?_, ?_⟩ <;> intros
  all_goals (first | unfold q_packed.l0 | unfold q_packed.l1)
  all_goals
   repeat' first
   | (with_reducible exact ih0 _ _ _ _ _ _)
   | (with_reducible exact ih1 _ _ _ _ _ _ _ _)
   | (with_reducible exact LeO.refl _)
   | (with_reducible refine LeO.ite ?_ ?_)
theorem q_packed.mono : ∀ a0 a1 k, LeO (q_packed.f k a0 a1) (q_packed.f (k + 1) a0 a1) := by
 intro a0 a1 k
 obtain ⟨ih0, ih1⟩ := q_packed.mono_l k
 unfold q_packed.f
 repeat' first
  | (with_reducible exact ih0 _ _ _ _ _ _)
  | (with_reducible exact LeO.refl _)
  | (with_reducible refine LeO.ite ?_ ?_)
def q_packed.T10 : Bool × List (List Nat × List Nat) := (true, [([], []), ([], []), ([1], [1]), ([0, 2], [0, 2]), ([3], [3]), ([], []), ([5], [5]), ([6], [6]), ([4, 7], [4, 7]), ([0, 2, 0, 1, 2, 3, 4, 5, 6, 7, 8], [0, 2]), ([9, 8, 0, 1, 2, 3, 4, 5, 6, 7, 8], [8, 9])])
def q_packed.B10 : List Nat := [0, 0, 2, 7, 15, 0, 32, 96, 255, 511, 1023]
theorem q_packed.tab10 : rtab .any (opsOf Try.f103 10) = q_packed.T10 := by kernel_rfl
theorem q_packed.bits10 : waitsOk q_packed.T10.2 q_packed.B10 = true := by kernel_rfl
set_option maxHeartbeats 8000000 in
set_option maxRecDepth 100000 in
theorem q_packed.calls (k : Nat) (A0 : Option Addr) (c0 : Nat) (l0 : List Int) (a1 : Int) (r : List Int) (w : World) (hr0 : Kd.C (Kd.int .i64) w A0 l0.length l0) (hc0 : l0.length ≤ c0) (h : q_packed.f k l0 a1 = some r) :
 Calls Try.prog 103 #[.slice A0 l0.length c0, .int .i64 a1] w fun e w' => ∃ v0_ : Value, e = .returned (v0_) ∧ Kd.R (Kd.int .u8) 5 w' w.heap.size (fun _ => True) v0_ r ∧ Below w.heap.size w w' := by
 have HR0 := Ak hr0
 have HC0 := Ak hc0
 clear hr0 hc0
 have HB := Ak (Below.refl w.heap.size w)
 have H : (if 0 ≤ (wrap64 (Int.tdiv (wrap64 ((wrap64 ((l0.length : Int) * a1)) + 7)) 8)) then (if (wrap64 (Int.tdiv (wrap64 ((wrap64 ((l0.length : Int) * a1)) + 7)) 8) : Int).toNat ≤ 281474976710656 then (q_packed.l0 k a1 (List.replicate (wrap64 (Int.tdiv (wrap64 ((wrap64 ((l0.length : Int) * a1)) + 7)) 8) : Int).toNat 0) 0 l0 (l0.length : Int) 0) else (none)) else (none)) = some r := h
 clear h
 obtain ⟨ji3, hji3⟩ : ∃ j_ : Int, (wrap64 (Int.tdiv (wrap64 ((wrap64 ((l0.length : Int) * a1)) + 7)) 8)) = j_ := ⟨_, rfl⟩
 replace H : (if 0 ≤ (ji3) then (if (ji3 : Int).toNat ≤ 281474976710656 then (q_packed.l0 k a1 (List.replicate (ji3 : Int).toNat 0) 0 l0 (l0.length : Int) 0) else (none)) else (none)) = some r := by (rw [hji3] at H; exact H)
 have hji3w : (IntKind.i64.wrap (Int.tdiv (wrap64 ((wrap64 ((l0.length : Int) * a1)) + 7)) 8)) = ji3 := (i64_w _).trans hji3
 by_cases c4 : 0 ≤ (ji3)
 ·rw [if_pos c4] at H
  have c4b0 := eq_true c4
  have c4b1 : decide (0 ≤ (ji3)) = true := decide_eq_true c4
  clear c4
  by_cases c5 : (ji3 : Int).toNat ≤ 281474976710656
  ·rw [if_pos c5] at H
   have c5b0 := eq_true c5
   have c5b1 : decide ((ji3 : Int).toNat ≤ 281474976710656) = true := decide_eq_true c5
   clear c5
   obtain ⟨y436, hy436⟩ : ∃ y_ : List Int, y_ = (List.replicate (ji3 : Int).toNat 0) := ⟨_, rfl⟩
   replace H : (q_packed.l0 k a1 y436 0 l0 (l0.length : Int) 0) = some r := by (rw [hy436]; with_reducible exact H)
   have Ny436 := Ak hy436
   clear hy436
   have H' := Ak H
   clear H
   go_enter Try.func103, Try.ntmps103
   go_wp2_with (first | ((with_reducible refine gate_dst (N := 16) rfl ?_); refine Kd.R_make (Kd.int .u8) _ 5 rfl (N := 16) rfl 27 _ _ rfl ji3 rfl rfl Try.underlying27 (.int .u8 0) 1 info5 rfl (by decide) (by omega) 0 (ok := fun _ => True) (okp := fun _ => True) rfl (fun _ hk => hk) trivial (of_decide_eq_true (by (with_reducible assumption))) (Nat.le_trans (Nat.mul_le_mul_right _ (of_decide_eq_true (by (with_reducible assumption)) : ji3.toNat ≤ 281474976710656)) (by omega)) (Below.refl _ _) (Nat.le_refl _) ?_; intro v437 w6 ho7 hb hg_ hnew_; clear hg_ hnew_; (rw [← Ny436.out] at ho7); have n0_ := Ak (Kd.R_lower ho7 (below_size (by exact HB.out))); have n1_ := Ak (below_step (by exact HB.out) hb); clear HB; have HO438 := n0_; have HB := n1_; clear n0_ n1_ hb ho7))
   go_loopg [6, 19] k (fun kq v6 v19 w' => ∃ (x5_1 : List Int) (x6_1 : Int) (x19_1 : Int), v6 = .int .i64 x6_1 ∧ v19 = .int .i64 x19_1 ∧ Aside0 (q_packed.l0 kq a1 x5_1 x6_1 l0 (l0.length : Int) x19_1 = some r) ∧ Aside0 (kq ≤ k) ∧ Aside0 (Kd.R (Kd.int .u8) 5 w' w.heap.size (fun _ => True) v437 x5_1) ∧ Aside0 (Below w.heap.size w w'))
   case atStart => exact ⟨(y436), (0), (0), (by rfl), (by rfl), H', ⟨Nat.le_refl _⟩, ⟨by exact HO438.out⟩, ⟨by exact HB.out⟩⟩
   case round =>
    clear H'
    try clear c4b0
    try clear c4b1
    try clear c5b0
    try clear c5b1
    obtain ⟨x5_1, x6_1, x19_1, rfl, rfl, HA, HK1, HO_5, HB⟩ := hrel
    cases gk with
    | zero => exact absurd HA.out (by simp [q_packed.l0])
    | succ k1 =>
     have H := HA.out
     clear HA
     simp only [q_packed.l0] at H
     by_cases c8 : x19_1 < (l0.length : Int)
     ·rw [if_pos c8] at H
      have c8b0 : decide (x19_1 < (l0.length : Int)) = true := decide_eq_true c8
      clear c8
      by_cases c9 : 0 ≤ x19_1
      ·rw [if_pos c9] at H
       have c9b0 : decide (0 ≤ x19_1) = true := decide_eq_true c9
       clear c9
       by_cases c10 : x19_1 < (l0.length : Int)
       ·rw [if_pos c10] at H
        have c10b0 : decide (x19_1 < (l0.length : Int)) = true := decide_eq_true c10
        clear c10
        have H' := Ak H
        clear H
        have p439 : 0 ≤ (x19_1 : Int) := of_decide_eq_true (by (with_reducible assumption))
        have q439 : x19_1 < (l0.length : Int) := of_decide_eq_true (by (with_reducible assumption))
        obtain ⟨ad439, e439, hx439_0⟩ := Kd.at_int HR0.out x19_1 p439 q439
        cases e439
        replace hx439_0 := (HB.out.cell (World.block_lt_of_cell? w _ hx439_0)).trans hx439_0
        replace p439 := eq_true p439
        replace q439 := eq_true q439
        go_wp2
        go_loopg [6, 9] k1 (fun kq v6 v9 w' => ∃ (x5_2 : List Int) (x6_2 : Int) (x9_2 : Int), v6 = .int .i64 x6_2 ∧ v9 = .int .i64 x9_2 ∧ Aside0 (q_packed.l1 kq a1 x5_2 x6_2 (rd l0 x19_1) x9_2 l0 (l0.length : Int) x19_1 = some r) ∧ Aside0 (kq ≤ k1) ∧ Aside0 (Kd.R (Kd.int .u8) 5 w' w.heap.size (fun _ => True) v437 x5_2) ∧ Aside0 (Below w.heap.size w w'))
        case atStart => exact ⟨(x5_1), (x6_1), (wrap64 (a1 - 1)), (by rfl), (by rfl), H', ⟨Nat.le_refl _⟩, ⟨by exact HO_5.out⟩, ⟨by exact HB.out⟩⟩
        case round =>
         clear H'
         try clear c8b0
         try clear c9b0
         try clear c10b0
         try clear hx439_0
         try clear p439
         try clear q439
         obtain ⟨x5_2, x6_2, x9_2, rfl, rfl, HA, HK2, HO_5, HB⟩ := hrel
         cases gk with
         | zero => exact absurd HA.out (by simp [q_packed.l1])
         | succ k2 =>
          have H := HA.out
          clear HA
          simp only [q_packed.l1] at H
          by_cases c11 : x9_2 ≥ 0
          ·rw [if_pos c11] at H
           have c11b0 : decide (0 ≤ x9_2) = true := decide_eq_true c11
           clear c11
           by_cases c12 : 0 ≤ x9_2
           ·rw [if_pos c12] at H
            have c12b0 := eq_true c12
            have c12b1 : decide (0 ≤ x9_2) = true := decide_eq_true c12
            clear c12
            obtain ⟨ji13, hji13⟩ : ∃ j_ : Int, (shr .i64 (rd l0 x19_1) x9_2) = j_ := ⟨_, rfl⟩
            replace H : (if (Go.bits .and .i64 (ji13) 1) = 1 then (if 0 ≤ (wrap64 (Int.tdiv x6_2 8)) then (if (wrap64 (Int.tdiv x6_2 8)) < (x5_2.length : Int) then (if 0 ≤ (Int.tmod x6_2 8) then (q_packed.l1 k2 a1 (x5_2.set ((wrap64 (Int.tdiv x6_2 8)) : Int).toNat (Go.bits .or .u8 (rd x5_2 (wrap64 (Int.tdiv x6_2 8))) (shr .u8 128 (Int.tmod x6_2 8)))) (wrap64 (x6_2 + 1)) (rd l0 x19_1) (wrap64 (x9_2 - 1)) l0 (l0.length : Int) x19_1) else (none)) else (none)) else (none)) else (q_packed.l1 k2 a1 x5_2 (wrap64 (x6_2 + 1)) (rd l0 x19_1) (wrap64 (x9_2 - 1)) l0 (l0.length : Int) x19_1)) = some r := by (rw [hji13] at H; exact H)
            have hji13_ : ((rd l0 x19_1) / 2 ^ min x9_2.toNat 64) = ji13 := hji13
            have hji13z : x9_2 ≤ 64 → ((rd l0 x19_1) / 2 ^ x9_2.toNat) = ji13 := shr_small hji13
            by_cases c14 : (Go.bits .and .i64 (ji13) 1) = 1
            ·rw [if_pos c14] at H
             have c14b0 : ((Go.bits .and .i64 (ji13) 1) == 1) = true := beq_iff_eq.mpr c14
             have c14b1 : ((Go.bits .and .i64 (ji13) 1) != 1) = false := bne_eq_false_iff_eq.mpr c14
             clear c14
             obtain ⟨ji15, hji15⟩ : ∃ j_ : Int, (wrap64 (Int.tdiv x6_2 8)) = j_ := ⟨_, rfl⟩
             replace H : (if 0 ≤ (ji15) then (if (ji15) < (x5_2.length : Int) then (if 0 ≤ (Int.tmod x6_2 8) then (q_packed.l1 k2 a1 (x5_2.set ((ji15) : Int).toNat (Go.bits .or .u8 (rd x5_2 (ji15)) (shr .u8 128 (Int.tmod x6_2 8)))) (wrap64 (x6_2 + 1)) (rd l0 x19_1) (wrap64 (x9_2 - 1)) l0 (l0.length : Int) x19_1) else (none)) else (none)) else (none)) = some r := by (rw [hji15] at H; exact H)
             have hji15w : (IntKind.i64.wrap (Int.tdiv x6_2 8)) = ji15 := (i64_w _).trans hji15
             by_cases c16 : 0 ≤ (ji15)
             ·rw [if_pos c16] at H
              have c16b0 : decide (0 ≤ (ji15)) = true := decide_eq_true c16
              clear c16
              by_cases c17 : (ji15) < (x5_2.length : Int)
              ·rw [if_pos c17] at H
               have c17b0 : decide ((ji15) < (x5_2.length : Int)) = true := decide_eq_true c17
               clear c17
               obtain ⟨ji18, hji18⟩ : ∃ j_ : Int, (Int.tmod x6_2 8) = j_ := ⟨_, rfl⟩
               replace H : (if 0 ≤ (ji18) then (q_packed.l1 k2 a1 (x5_2.set ((ji15) : Int).toNat (Go.bits .or .u8 (rd x5_2 (ji15)) (shr .u8 128 (ji18)))) (wrap64 (x6_2 + 1)) (rd l0 x19_1) (wrap64 (x9_2 - 1)) l0 (l0.length : Int) x19_1) else (none)) = some r := by (rw [hji18] at H; exact H)
               by_cases c19 : 0 ≤ (ji18)
               ·rw [if_pos c19] at H
                have c19b0 := eq_true c19
                have c19b1 : decide (0 ≤ (ji18)) = true := decide_eq_true c19
                clear c19
                obtain ⟨ji20, hji20⟩ : ∃ j_ : Int, (shr .u8 128 (ji18)) = j_ := ⟨_, rfl⟩
                replace H : (q_packed.l1 k2 a1 (x5_2.set ((ji15) : Int).toNat (Go.bits .or .u8 (rd x5_2 (ji15)) (ji20))) (wrap64 (x6_2 + 1)) (rd l0 x19_1) (wrap64 (x9_2 - 1)) l0 (l0.length : Int) x19_1) = some r := by (rw [hji20] at H; exact H)
                have hji20_ : (128 / 2 ^ min (ji18).toNat 8) = ji20 := hji20
                have hji20z : (ji18) ≤ 8 → (128 / 2 ^ (ji18).toNat) = ji20 := shr_small hji20
                obtain ⟨y441, hy441⟩ : ∃ y_ : List Int, y_ = (x5_2.set ((ji15) : Int).toNat (Go.bits .or .u8 (rd x5_2 (ji15)) (ji20))) := ⟨_, rfl⟩
                replace H : (q_packed.l1 k2 a1 y441 (wrap64 (x6_2 + 1)) (rd l0 x19_1) (wrap64 (x9_2 - 1)) l0 (l0.length : Int) x19_1) = some r := by (rw [hy441]; with_reducible exact H)
                have Ny441 := Ak hy441
                clear hy441
                have H' := Ak H
                clear H
                try go_wp2
                have n0_ := Ak (Kd.R_drew HO_5.out)
                have n1_ := Ak (below_drew1 HB.out)
                clear HO_5 HB
                have HO_5 := n0_
                have HB := n1_
                clear n0_ n1_
                obtain ⟨Ao23, co23, eo23⟩ := Kd.R_slice HO_5.out
                (subst eo23)
                have p440 : 0 ≤ ((ji15) : Int) := of_decide_eq_true (by (with_reducible assumption))
                have q440 : (ji15) < (x5_2.length : Int) := of_decide_eq_true (by (with_reducible assumption))
                obtain ⟨ad440, e440, hx440_0⟩ := Kd.at_int (Kd.R_reads' HO_5.out).2.2 (ji15) p440 q440
                cases e440
                replace p440 := eq_true p440
                replace q440 := eq_true q440
                have p21 : 0 ≤ ((ji15) : Int) := of_decide_eq_true (by (with_reducible assumption))
                have q21 : ((ji15) : Int) < ((x5_2.length : Int) : Int) := of_decide_eq_true (by (with_reducible assumption))
                obtain ⟨go21, co21, eo21, gb21, gl21, cl21, HG21⟩ := Kd.R_form HO_5.out (by omega)
                (cases eo21)
                have GB21 := Ak gb21
                have GG21 := Ak HG21
                clear gb21 gl21 HG21
                (simp only [add_plain] at hx440_0)
                obtain ⟨hx21_0, hf21_0⟩ := Kd.R_celln 0 HO_5.out ((ji15) : Int) p21 q21
                replace p21 := eq_true p21
                replace q21 := eq_true q21
                have HP24 := Kd.R_putn HO_5.out ((ji15) : Int) (Go.bits .or .u8 (rd x5_2 (ji15)) (ji20))
                rw [← Ny441.out] at HP24
                have HQ24 := Ak HP24
                clear HP24
                refine start_ (n := 11) (S := fun w' => w'.cell? ⟨go21, ((ji15)).toNat, none⟩ = some (.int .u8 (rd x5_2 (ji15)))) (ds := [10]) #[false, false, false, false, false, false, false, false, false, false, false] (by kernel_rfl) rfl rfl (hx440_0) (fun hHeld => ?_); refine with_tabW q_packed.tab10 q_packed.bits10 (fun HT_ HW_ => ?_)
                generalize wr.drew = w22 at HO_5 HB GG21 HQ24 hf21_0 hx21_0 hx440_0 hHeld ⊢
                refine pure_ (i := 0) (N := some 34) (v := ?_) (a' := ?_) #[true, false, false, false, false, false, false, false, false, false, false] rfl rfl (any_of HT_.out (by kernel_rfl)) (fun _ _ _ h => h) (Or.inl ⟨by rfl, ?_⟩) ?_ ?_
                rotate_left
                ·intro w'
                 go_simp
                 with_reducible rfl
                rotate_left
                ·simp only [Act.put, List.setIfInBounds_toArray, List.set_cons_zero, List.set_cons_succ, i64_w, i32_w]
                 rfl
                refine pure_ (i := 1) (N := some 35) (v := ?_) (a' := ?_) #[true, true, false, false, false, false, false, false, false, false, false] rfl rfl (any_of HT_.out (by kernel_rfl)) (fun _ _ _ h => h) (Or.inl ⟨by rfl, ?_⟩) ?_ ?_
                rotate_left
                ·intro w'
                 go_simp
                 with_reducible rfl
                rotate_left
                ·simp only [Act.put, List.setIfInBounds_toArray, List.set_cons_zero, List.set_cons_succ, i64_w, i32_w]
                 rfl
                refine pure_ (i := 2) (N := some 36) (v := ?_) (a' := ?_) #[true, true, true, false, false, false, false, false, false, false, false] rfl rfl (any_of HT_.out (by kernel_rfl)) (fun _ _ _ h => h) (Or.inl ⟨by rfl, ?_⟩) ?_ ?_
                rotate_left
                ·intro w'
                 go_simp
                 with_reducible rfl
                rotate_left
                ·simp only [Act.put, List.setIfInBounds_toArray, List.set_cons_zero, List.set_cons_succ, i64_w, i32_w]
                 rfl
                refine pure_ (i := 3) (N := some 37) (v := ?_) (a' := ?_) #[true, true, true, true, false, false, false, false, false, false, false] rfl rfl (any_of HT_.out (by kernel_rfl)) (fun _ _ _ h => h) (Or.inl ⟨by rfl, ?_⟩) ?_ ?_
                rotate_left
                ·intro w'
                 go_simp
                 with_reducible rfl
                rotate_left
                ·simp only [Act.put, List.setIfInBounds_toArray, List.set_cons_zero, List.set_cons_succ, i64_w, i32_w]
                 rfl
                refine pure_ (i := 5) (N := some 39) (v := ?_) (a' := ?_) #[true, true, true, true, false, true, false, false, false, false, false] rfl rfl (any_of HT_.out (by kernel_rfl)) (fun _ _ _ h => h) (Or.inl ⟨by rfl, ?_⟩) ?_ ?_
                rotate_left
                ·intro w'
                 go_simp
                 with_reducible rfl
                rotate_left
                ·simp only [Act.put, List.setIfInBounds_toArray, List.set_cons_zero, List.set_cons_succ, i64_w, i32_w]
                 rfl
                refine pure_ (i := 6) (N := some 40) (v := ?_) (a' := ?_) #[true, true, true, true, false, true, true, false, false, false, false] rfl rfl (any_of HT_.out (by kernel_rfl)) (fun _ _ _ h => h) (Or.inl ⟨by rfl, ?_⟩) ?_ ?_
                rotate_left
                ·intro w'
                 go_simp
                 with_reducible rfl
                rotate_left
                ·simp only [Act.put, List.setIfInBounds_toArray, List.set_cons_zero, List.set_cons_succ, i64_w, i32_w]
                 rfl
                refine pure_ (i := 7) (N := some 41) (v := ?_) (a' := ?_) #[true, true, true, true, false, true, true, true, false, false, false] rfl rfl (any_of HT_.out (by kernel_rfl)) (fun _ _ _ h => h) (Or.inl ⟨by rfl, ?_⟩) ?_ ?_
                rotate_left
                ·intro w'
                 go_simp
                 with_reducible rfl
                rotate_left
                ·simp only [Act.put, List.setIfInBounds_toArray, List.set_cons_zero, List.set_cons_succ, i64_w, i32_w]
                 rfl
                refine take_ (i := 4) (N := some 38) (v := ?_) (a' := ?_) #[true, true, true, true, true, true, true, true, false, false, false] rfl rfl (take_ofW HT_.out HW_.out (by kernel_rfl)) (fun _ _ _ h => h) (Or.inl ⟨by rfl, ?_⟩) hHeld ?_ ?_
                rotate_left
                ·intro w' s0
                 go_simp
                 with_reducible rfl
                rotate_left
                ·simp only [Act.put, List.setIfInBounds_toArray, List.set_cons_zero, List.set_cons_succ, i64_w, i32_w]
                 rfl
                refine pure_ (i := 8) (N := some 42) (v := ?_) (a' := ?_) #[true, true, true, true, true, true, true, true, true, false, false] rfl rfl (any_of HT_.out (by kernel_rfl)) (fun _ _ _ h => h) (Or.inl ⟨by rfl, ?_⟩) ?_ ?_
                rotate_left
                ·intro w'
                 go_simp
                 with_reducible rfl
                rotate_left
                ·simp only [Act.put, List.setIfInBounds_toArray, List.set_cons_zero, List.set_cons_succ, i64_w, i32_w]
                 rfl
                refine pure_ (i := 9) (N := some 43) (v := ?_) (a' := ?_) #[true, true, true, true, true, true, true, true, true, true, false] rfl rfl (any_of HT_.out (by kernel_rfl)) (fun _ _ _ h => h) (Or.inl ⟨by rfl, ?_⟩) ?_ ?_
                rotate_left
                ·intro w'
                 go_simp
                 with_reducible rfl
                rotate_left
                ·simp only [Act.put, List.setIfInBounds_toArray, List.set_cons_zero, List.set_cons_succ, i64_w, i32_w]
                 rfl
                refine last_ (i := 10) (N := none) #[true, true, true, true, true, true, true, true, true, true, true] rfl rfl (one_of HT_.out (by kernel_rfl)) (by decide) (fun K hK => ?_)
                refine skip_ (w1 := ?_) (by rfl) rfl ?_ ?_
                rotate_left
                ·go_simp
                 rfl
                refine hK.out _ _ ?_
                clear hK K
                refine done_ (done_of HT_.out (by kernel_rfl)) ?_
                try go_wp2
                go_roundg k2
                case measure => have := HK1.out; have := HK2.out; omega
                case rel => exact ⟨(y441), (wrap64 (x6_2 + 1)), (wrap64 (x9_2 - 1)), (by rfl), (by rfl), H', ⟨by have := HK1.out; have := HK2.out; omega⟩, ⟨by exact HQ24.out⟩, ⟨by repeat ((with_reducible first | exact HB.out | refine below_set ?_ GB21.out))⟩⟩
               ·rw [if_neg c19] at H
                exact absurd H (by simp)
              ·rw [if_neg c17] at H
               exact absurd H (by simp)
             ·rw [if_neg c16] at H
              exact absurd H (by simp)
            ·rw [if_neg c14] at H
             have c14b0 : ((Go.bits .and .i64 (ji13) 1) == 1) = false := beq_eq_false_iff_ne.mpr c14
             have c14b1 : ((Go.bits .and .i64 (ji13) 1) != 1) = true := bne_iff_ne.mpr c14
             have H' := Ak H
             clear H
             go_wp2
             go_roundg k2
             case measure => have := HK1.out; have := HK2.out; omega
             case rel => exact ⟨(x5_2), (wrap64 (x6_2 + 1)), (wrap64 (x9_2 - 1)), (by rfl), (by rfl), H', ⟨by have := HK1.out; have := HK2.out; omega⟩, ⟨by exact HO_5.out⟩, ⟨by exact HB.out⟩⟩
           ·rw [if_neg c12] at H
            exact absurd H (by simp)
          ·rw [if_neg c11] at H
           have c11b0 : decide (0 ≤ x9_2) = false := decide_eq_false c11
           clear c11
           have H' := Ak H
           clear H
           go_wp2
           go_roundg k2
           case measure => have := HK1.out; have := HK2.out; omega
           case rel => exact ⟨(x5_2), (x6_2), (wrap64 (x19_1 + 1)), (by rfl), (by rfl), H', ⟨by have := HK1.out; have := HK2.out; omega⟩, ⟨by exact HO_5.out⟩, ⟨by exact HB.out⟩⟩
       ·rw [if_neg c10] at H
        exact absurd H (by simp)
      ·rw [if_neg c9] at H
       exact absurd H (by simp)
     ·rw [if_neg c8] at H
      have c8b0 : decide (x19_1 < (l0.length : Int)) = false := decide_eq_false c8
      clear c8
      obtain rfl := Option.some.inj H
      go_wp2
      go_ret
      exact ⟨_, by rfl, by exact HO_5.out, by exact HB.out⟩
  ·rw [if_neg c5] at H
   exact absurd H (by simp)
 ·rw [if_neg c4] at H
  exact absurd H (by simp)
def q_width.f (a0 : Int) : Option (Int) := (bits_Len.f (IntKind.u64.wrap (a0))).bind fun t442 => (some t442)
set_option maxHeartbeats 8000000 in
set_option maxRecDepth 100000 in
theorem q_width.calls (a0 : Int) (r : Int) (w : World) (h : q_width.f a0 = some r) :
 Calls Try.prog 104 #[.int .i64 a0] w fun e w' => e = .returned (.int .i64 r) ∧ Drawn0 w w' := by
 have H : ((bits_Len.f (IntKind.u64.wrap (a0))).bind fun t442 => (some t442)) = some r := h
 clear h
 replace H := Option.bind_eq_some_iff.mp H
 obtain ⟨t442, A20, H⟩ := H
 replace H : (some t442) = some r := H
 have A2 := Ak A20
 clear A20
 obtain rfl := Option.some.inj H
 go_enter Try.func104, Try.ntmps104
 go_wp2_with (first | ((with_reducible refine gate_callee (f := 110) rfl ?_); refine goesL_ (some 5) rfl rfl Try.func110 (by kernel_rfl) rfl #[.int .u64 (IntKind.u64.wrap (a0))] rfl (by (try simp only [lm]); rfl) ?_; (with_reducible refine (bits_Len.calls (IntKind.u64.wrap (a0)) t442 _ A2.out).mono ?_); rintro e w' ⟨rfl, ⟨nd, rfl⟩⟩; refine ⟨_, rfl, ?_⟩))
 go_ret
 exact ⟨by rfl, by repeat (first | exact Drawn0.refl _ | apply Drawn0.step)⟩
def q_distinct.f (l0 : List Int) : Option (List Int) := (s_Clone.f l0).bind fun t443 => ((s_Sort.f t443).bind fun t446 => ((s_Compact.f t446).bind fun t447 => (some t447)))
set_option maxHeartbeats 8000000 in
set_option maxRecDepth 100000 in
theorem q_distinct.calls (A0 : Option Addr) (c0 : Nat) (l0 : List Int) (r : List Int) (w : World) (hr0 : Kd.C (Kd.int .i64) w A0 l0.length l0) (hc0 : l0.length ≤ c0) (h : q_distinct.f l0 = some r) :
 Calls Try.prog 115 #[.slice A0 l0.length c0] w fun e w' => ∃ v0_ : Value, e = .returned (v0_) ∧ Kd.R (Kd.int .i64) 3 w' w.heap.size (fun _ => True) v0_ r ∧ Below w.heap.size w w' := by
 have HR0 := Ak hr0
 have HC0 := Ak hc0
 clear hr0 hc0
 have HB := Ak (Below.refl w.heap.size w)
 have H : ((s_Clone.f l0).bind fun t443 => ((s_Sort.f t443).bind fun t446 => ((s_Compact.f t446).bind fun t447 => (some t447)))) = some r := h
 clear h
 replace H := Option.bind_eq_some_iff.mp H
 obtain ⟨t443, A20, H⟩ := H
 replace H : ((s_Sort.f t443).bind fun t446 => ((s_Compact.f t446).bind fun t447 => (some t447))) = some r := H
 have A2 := Ak A20
 clear A20
 replace H := Option.bind_eq_some_iff.mp H
 obtain ⟨t446, A30, H⟩ := H
 replace H : ((s_Compact.f t446).bind fun t447 => (some t447)) = some r := H
 have A3 := Ak A30
 clear A30
 replace H := Option.bind_eq_some_iff.mp H
 obtain ⟨t447, A40, H⟩ := H
 replace H : (some t447) = some r := H
 have A4 := Ak A40
 clear A40
 obtain rfl := Option.some.inj H
 go_enter Try.func115, Try.ntmps115
 go_wp2_with (first | ((with_reducible refine gate_callee (f := 106) rfl ?_); refine goesL_ (some 5) rfl rfl Try.func106 (by kernel_rfl) rfl #[.slice A0 l0.length c0] rfl (by (try simp only [lm]); rfl) ?_; (with_reducible refine (s_Clone.calls _ _ l0 t443 _ ?side1 ?side2 A2.out).mono ?_); (case side1 => repeat (exact HR0.out)); (case side2 => exact HC0.out); rintro e w5 ⟨v444, rfl, ho0, hb⟩; refine ⟨_, rfl, ?_⟩; have n0_ := Ak (Kd.R_lower ho0 (below_size (by exact HB.out))); have n1_ := Ak (below_step (by exact HB.out) hb); clear HB; have HO445 := n0_; have HB := n1_; clear n0_ n1_; (try clear hb); (try clear ho0); obtain ⟨Ao6, co6, eo6⟩ := Kd.R_slice HO445.out; subst eo6) | ((with_reducible refine gate_callee (f := 107) rfl ?_); refine goesL_ (some 7) rfl rfl Try.func107 (by kernel_rfl) rfl #[.slice Ao6 t443.length co6] rfl (by (try simp only [lm]); rfl) ?_; (with_reducible refine (s_Sort.calls (fun k_ => some k_ = (.slice Ao6 t443.length co6 : Value).ownBlock) (.slice Ao6 t443.length co6) t443 t446 w _ ?side1 ?side2 A3.out).mono ?_); (case side1 => exact HB.out); (case side2 => exact Kd.R_tight rfl HO445.out); rintro e w7 ⟨rfl, hy0, hb, hkp⟩; refine ⟨_, rfl, ?_⟩; have n0_ := Ak (Kd.R_reok rfl hy0 (fun k_ e_ => HO445.out.1 k_ e_)); have n1_ := Ak (hb); clear HO445 HB; have HO445 := n0_; have HB := n1_; clear n0_ n1_; (try clear hb); (try clear hkp); (try clear hy0)) | ((with_reducible refine gate_callee (f := 108) rfl ?_); refine goesL_ (some 9) rfl rfl Try.func108 (by kernel_rfl) rfl #[.slice Ao6 t443.length co6] rfl (by (try simp only [lm]); rfl) ?_; (with_reducible refine (s_Compact.calls (fun k_ => some k_ = (.slice Ao6 t443.length co6 : Value).ownBlock) (.slice Ao6 t443.length co6) t446 t447 w _ ?side1 ?side2 A4.out).mono ?_); (case side1 => exact HB.out); (case side2 => exact Kd.R_tight rfl HO445.out); rintro e w8 ⟨v448, rfl, ho0, hb, hkp⟩; refine ⟨_, rfl, ?_⟩; have n0_ := Ak (Kd.R_mono (ok' := fun k_ => True) ho0 (fun k_ hk_ => trivial)); have n1_ := Ak (hb); clear HB HO445; have HO449 := n0_; have HB := n1_; clear n0_ n1_; (try clear hb); (try clear hkp); (try clear ho0)))
 go_ret
 exact ⟨_, by rfl, by exact HO449.out, by exact HB.out⟩
def s_Index.l0 : Nat → List Int → Int → Int → Int → Option (Int)
 | 0, _, _, _, _ => none
 | k + 1, x0, x1, x7, x8 => if x8 < x7 then (if 0 ≤ x8 then (if x8 < (x0.length : Int) then (if x1 = (rd x0 x8) then (some x8) else (s_Index.l0 k x0 x1 x7 (wrap64 (x8 + 1)))) else (none)) else (none)) else (some (-1))
def s_Index.f (k : Nat) (l0 : List Int) (a1 : Int) : Option (Int) := s_Index.l0 k l0 a1 (l0.length : Int) 0
theorem s_Index.mono_l : ∀ k, (∀ y0 y1 y2 y3, LeO (s_Index.l0 k y0 y1 y2 y3) (s_Index.l0 (k + 1) y0 y1 y2 y3))
 | 0 => fun _ _ _ _ r h => by simp [s_Index.l0] at h
 | k + 1 => by
  have ih0 := s_Index.mono_l k
  ·intro y0 y1 y2 y3
   unfold s_Index.l0
   repeat' first
   | (with_reducible exact ih0 _ _ _ _)
   | (with_reducible exact LeO.refl _)
   | (with_reducible refine LeO.ite ?_ ?_)
theorem s_Index.mono : ∀ a0 a1 k, LeO (s_Index.f k a0 a1) (s_Index.f (k + 1) a0 a1) := by
 intro a0 a1 k
 have ih0 := s_Index.mono_l k
 unfold s_Index.f
 repeat' first
  | (with_reducible exact ih0 _ _ _ _)
set_option maxHeartbeats 8000000 in
set_option maxRecDepth 100000 in
theorem s_Index.calls (k : Nat) (A0 : Option Addr) (c0 : Nat) (l0 : List Int) (a1 : Int) (r : Int) (w : World) (hr0 : Kd.C (Kd.int .i64) w A0 l0.length l0) (hc0 : l0.length ≤ c0) (h : s_Index.f k l0 a1 = some r) :
 Calls Try.prog 65 #[.slice A0 l0.length c0, .int .i64 a1] w fun e w' => e = .returned (.int .i64 r) ∧ Drawn0 w w' := by
 have HR0 := Ak hr0
 have HC0 := Ak hc0
 clear hr0 hc0
 have H : (s_Index.l0 k l0 a1 (l0.length : Int) 0) = some r := h
 clear h
 have H' := Ak H
 clear H
 go_enter Try.func65, Try.ntmps65
 go_wp2
 go_loopg [8] k (fun kq v8 w' => ∃ (x8_1 : Int), v8 = .int .i64 x8_1 ∧ Aside0 (s_Index.l0 kq l0 a1 (l0.length : Int) x8_1 = some r) ∧ Aside0 (kq ≤ k) ∧ Drawn0 w w')
 case atStart => exact ⟨(0), (by rfl), H', ⟨Nat.le_refl _⟩, by repeat (exact Drawn0.refl _)⟩
 case round =>
  clear H'
  obtain ⟨x8_1, rfl, HA, HK1, ⟨m1, rfl⟩⟩ := hrel
  cases gk with
  | zero => exact absurd HA.out (by simp [s_Index.l0])
  | succ k1 =>
   have H := HA.out
   clear HA
   simp only [s_Index.l0] at H
   by_cases c3 : x8_1 < (l0.length : Int)
   ·rw [if_pos c3] at H
    have c3b0 : decide (x8_1 < (l0.length : Int)) = true := decide_eq_true c3
    clear c3
    by_cases c4 : 0 ≤ x8_1
    ·rw [if_pos c4] at H
     have c4b0 : decide (0 ≤ x8_1) = true := decide_eq_true c4
     clear c4
     by_cases c5 : x8_1 < (l0.length : Int)
     ·rw [if_pos c5] at H
      have c5b0 : decide (x8_1 < (l0.length : Int)) = true := decide_eq_true c5
      clear c5
      by_cases c6 : a1 = (rd l0 x8_1)
      ·rw [if_pos c6] at H
       have c6b0 : (a1 == (rd l0 x8_1)) = true := beq_iff_eq.mpr c6
       have c6b1 : (a1 != (rd l0 x8_1)) = false := bne_eq_false_iff_eq.mpr c6
       clear c6
       obtain rfl := Option.some.inj H
       have p450 : 0 ≤ (x8_1 : Int) := of_decide_eq_true (by (with_reducible assumption))
       have q450 : x8_1 < (l0.length : Int) := of_decide_eq_true (by (with_reducible assumption))
       obtain ⟨ad450, e450, hx450_0⟩ := Kd.at_int HR0.out x8_1 p450 q450
       cases e450
       replace p450 := eq_true p450
       replace q450 := eq_true q450
       go_wp2
       go_ret
       exact ⟨by rfl, by repeat (first | exact Drawn0.refl _ | apply Drawn0.step)⟩
      ·rw [if_neg c6] at H
       have c6b0 : (a1 == (rd l0 x8_1)) = false := beq_eq_false_iff_ne.mpr c6
       have c6b1 : (a1 != (rd l0 x8_1)) = true := bne_iff_ne.mpr c6
       have H' := Ak H
       clear H
       have p450 : 0 ≤ (x8_1 : Int) := of_decide_eq_true (by (with_reducible assumption))
       have q450 : x8_1 < (l0.length : Int) := of_decide_eq_true (by (with_reducible assumption))
       obtain ⟨ad450, e450, hx450_0⟩ := Kd.at_int HR0.out x8_1 p450 q450
       cases e450
       replace p450 := eq_true p450
       replace q450 := eq_true q450
       go_wp2
       go_roundg k1
       case measure => have := HK1.out; omega
       case rel => exact ⟨(wrap64 (x8_1 + 1)), (by rfl), H', ⟨by have := HK1.out; omega⟩, by repeat (first | exact Drawn0.refl _ | apply Drawn0.step)⟩
     ·rw [if_neg c5] at H
      exact absurd H (by simp)
    ·rw [if_neg c4] at H
     exact absurd H (by simp)
   ·rw [if_neg c3] at H
    have c3b0 : decide (x8_1 < (l0.length : Int)) = false := decide_eq_false c3
    clear c3
    obtain rfl := Option.some.inj H
    go_wp2
    go_ret
    exact ⟨by rfl, by repeat (first | exact Drawn0.refl _ | apply Drawn0.step)⟩
def q_places.l0 : Nat → List Int → List Int → List Int → Int → Int → Option (List Int)
 | 0, _, _, _, _, _ => none
 | k + 1, x1, x5, x11, x12, x13 => if x13 < x12 then (if 0 ≤ x13 then (if x13 < (x11.length : Int) then ((s_Index.f k x1 (rd x11 x13)).bind fun t455 => (if x13 < (x5.length : Int) then (q_places.l0 k x1 (x5.set (x13 : Int).toNat t455) x11 x12 (wrap64 (x13 + 1))) else (none))) else (none)) else (none)) else (some x5)
def q_places.f (k : Nat) (l0 : List Int) (l1 : List Int) : Option (List Int) := if 0 ≤ (l0.length : Int) then (if ((l0.length : Int) : Int).toNat ≤ 35184372088832 then (q_places.l0 k l1 (List.replicate ((l0.length : Int) : Int).toNat 0) l0 (l0.length : Int) 0) else (none)) else (none)
theorem q_places.mono_l : ∀ k, (∀ y0 y1 y2 y3 y4, LeO (q_places.l0 k y0 y1 y2 y3 y4) (q_places.l0 (k + 1) y0 y1 y2 y3 y4))
 | 0 => fun _ _ _ _ _ r h => by simp [q_places.l0] at h
 | k + 1 => by
  have ih0 := q_places.mono_l k
  ·intro y0 y1 y2 y3 y4
   unfold q_places.l0
   repeat' first
   | (with_reducible exact ih0 _ _ _ _ _)
   | (with_reducible exact s_Index.mono _ _ _)
   | (with_reducible exact LeO.refl _)
   | (with_reducible refine LeO.ite ?_ ?_)
   | (with_reducible refine LeO.bind ?_ (fun _ => ?_))
theorem q_places.mono : ∀ a0 a1 k, LeO (q_places.f k a0 a1) (q_places.f (k + 1) a0 a1) := by
 intro a0 a1 k
 have ih0 := q_places.mono_l k
 unfold q_places.f
 repeat' first
  | (with_reducible exact ih0 _ _ _ _ _)
  | (with_reducible exact LeO.refl _)
  | (with_reducible refine LeO.ite ?_ ?_)
set_option maxHeartbeats 8000000 in
set_option maxRecDepth 100000 in
theorem q_places.calls (k : Nat) (A0 : Option Addr) (c0 : Nat) (l0 : List Int) (A1 : Option Addr) (c1 : Nat) (l1 : List Int) (r : List Int) (w : World) (hr0 : Kd.C (Kd.int .i64) w A0 l0.length l0) (hc0 : l0.length ≤ c0) (hr1 : Kd.C (Kd.int .i64) w A1 l1.length l1) (hc1 : l1.length ≤ c1) (h : q_places.f k l0 l1 = some r) :
 Calls Try.prog 116 #[.slice A0 l0.length c0, .slice A1 l1.length c1] w fun e w' => ∃ v0_ : Value, e = .returned (v0_) ∧ Kd.R (Kd.int .i64) 3 w' w.heap.size (fun _ => True) v0_ r ∧ Below w.heap.size w w' := by
 have HR0 := Ak hr0
 have HC0 := Ak hc0
 clear hr0 hc0
 have HR1 := Ak hr1
 have HC1 := Ak hc1
 clear hr1 hc1
 have HB := Ak (Below.refl w.heap.size w)
 have H : (if 0 ≤ (l0.length : Int) then (if ((l0.length : Int) : Int).toNat ≤ 35184372088832 then (q_places.l0 k l1 (List.replicate ((l0.length : Int) : Int).toNat 0) l0 (l0.length : Int) 0) else (none)) else (none)) = some r := h
 clear h
 by_cases c3 : 0 ≤ (l0.length : Int)
 ·rw [if_pos c3] at H
  have c3b0 := eq_true c3
  have c3b1 : decide (0 ≤ (l0.length : Int)) = true := decide_eq_true c3
  clear c3
  by_cases c4 : ((l0.length : Int) : Int).toNat ≤ 35184372088832
  ·rw [if_pos c4] at H
   have c4b0 := eq_true c4
   have c4b1 : decide (((l0.length : Int) : Int).toNat ≤ 35184372088832) = true := decide_eq_true c4
   clear c4
   obtain ⟨y451, hy451⟩ : ∃ y_ : List Int, y_ = (List.replicate ((l0.length : Int) : Int).toNat 0) := ⟨_, rfl⟩
   replace H : (q_places.l0 k l1 y451 l0 (l0.length : Int) 0) = some r := by (rw [hy451]; with_reducible exact H)
   have Ny451 := Ak hy451
   clear hy451
   have H' := Ak H
   clear H
   go_enter Try.func116, Try.ntmps116
   go_wp2_with (first | ((with_reducible refine gate_dst (N := 10) rfl ?_); refine Kd.R_make (Kd.int .i64) _ 3 rfl (N := 10) rfl 22 _ _ rfl (l0.length : Int) rfl rfl Try.underlying22 (.int .i64 0) 8 info3 rfl (by decide) (by omega) 0 (ok := fun _ => True) (okp := fun _ => True) rfl (fun _ hk => hk) trivial (of_decide_eq_true (by (with_reducible assumption))) (Nat.le_trans (Nat.mul_le_mul_right _ (of_decide_eq_true (by (with_reducible assumption)) : (l0.length : Int).toNat ≤ 35184372088832)) (by omega)) (Below.refl _ _) (Nat.le_refl _) ?_; intro v452 w5 ho6 hb hg_ hnew_; clear hg_ hnew_; (rw [← Ny451.out] at ho6); have n0_ := Ak (Kd.R_lower ho6 (below_size (by exact HB.out))); have n1_ := Ak (below_step (by exact HB.out) hb); clear HB; have HO453 := n0_; have HB := n1_; clear n0_ n1_ hb ho6))
   go_loopg [13] k (fun kq v13 w' => ∃ (x5_1 : List Int) (x13_1 : Int), v13 = .int .i64 x13_1 ∧ Aside0 (q_places.l0 kq l1 x5_1 l0 (l0.length : Int) x13_1 = some r) ∧ Aside0 (kq ≤ k) ∧ Aside0 (Kd.R (Kd.int .i64) 3 w' w.heap.size (fun _ => True) v452 x5_1) ∧ Aside0 (Below w.heap.size w w'))
   case atStart => exact ⟨(y451), (0), (by rfl), H', ⟨Nat.le_refl _⟩, ⟨by exact HO453.out⟩, ⟨by exact HB.out⟩⟩
   case round =>
    clear H'
    try clear c3b0
    try clear c3b1
    try clear c4b0
    try clear c4b1
    obtain ⟨x5_1, x13_1, rfl, HA, HK1, HO_5, HB⟩ := hrel
    cases gk with
    | zero => exact absurd HA.out (by simp [q_places.l0])
    | succ k1 =>
     have H := HA.out
     clear HA
     simp only [q_places.l0] at H
     by_cases c7 : x13_1 < (l0.length : Int)
     ·rw [if_pos c7] at H
      have c7b0 : decide (x13_1 < (l0.length : Int)) = true := decide_eq_true c7
      clear c7
      by_cases c8 : 0 ≤ x13_1
      ·rw [if_pos c8] at H
       have c8b0 : decide (0 ≤ x13_1) = true := decide_eq_true c8
       clear c8
       by_cases c9 : x13_1 < (l0.length : Int)
       ·rw [if_pos c9] at H
        have c9b0 : decide (x13_1 < (l0.length : Int)) = true := decide_eq_true c9
        clear c9
        replace H := Option.bind_eq_some_iff.mp H
        obtain ⟨t455, A100, H⟩ := H
        replace H : (if x13_1 < (x5_1.length : Int) then (q_places.l0 k1 l1 (x5_1.set (x13_1 : Int).toNat t455) l0 (l0.length : Int) (wrap64 (x13_1 + 1))) else (none)) = some r := H
        have A10 := Ak A100
        clear A100
        by_cases c11 : x13_1 < (x5_1.length : Int)
        ·rw [if_pos c11] at H
         have c11b0 : decide (x13_1 < (x5_1.length : Int)) = true := decide_eq_true c11
         clear c11
         obtain ⟨y456, hy456⟩ : ∃ y_ : List Int, y_ = (x5_1.set (x13_1 : Int).toNat t455) := ⟨_, rfl⟩
         replace H : (q_places.l0 k1 l1 y456 l0 (l0.length : Int) (wrap64 (x13_1 + 1))) = some r := by (rw [hy456]; with_reducible exact H)
         have Ny456 := Ak hy456
         clear hy456
         have H' := Ak H
         clear H
         have p454 : 0 ≤ (x13_1 : Int) := of_decide_eq_true (by (with_reducible assumption))
         have q454 : x13_1 < (l0.length : Int) := of_decide_eq_true (by (with_reducible assumption))
         obtain ⟨ad454, e454, hx454_0⟩ := Kd.at_int HR0.out x13_1 p454 q454
         cases e454
         replace hx454_0 := (HB.out.cell (World.block_lt_of_cell? w _ hx454_0)).trans hx454_0
         replace p454 := eq_true p454
         replace q454 := eq_true q454
         go_wp2_with (first | ((with_reducible refine gate_callee (f := 65) rfl ?_); refine goesL_ (some 22) rfl rfl Try.func65 (by kernel_rfl) rfl #[.slice A1 l1.length c1, .int .i64 (rd l0 x13_1)] rfl (by (try simp only [lm]); rfl) ?_; (with_reducible refine (s_Index.calls k1 _ _ l1 (rd l0 x13_1) t455 _ ?side1 ?side2 A10.out).mono ?_); (case side1 => repeat (exact (Kd.C_below HR1.out HB.out))); (case side2 => exact HC1.out); rintro e w' ⟨rfl, ⟨nd, rfl⟩⟩; refine ⟨_, rfl, ?_⟩; (try (rw [drewN_self wr]; generalize hq_ : World.drewN wr _ = wr; have n0_ : Aside0 (Kd.R (Kd.int .i64) 3 wr w.heap.size (fun _ => True) v452 x5_1) := ⟨by rw [← hq_]; exact (by (with_reducible repeat (apply Kd.R_drewN)); exact HO_5.out)⟩; have n1_ : Aside0 (Below w.heap.size w wr) := ⟨by rw [← hq_]; exact (by repeat ((with_reducible first | exact HB.out | apply pw_below_drewN)))⟩; clear HO_5 HB hq_; have HO_5 := n0_; have HB := n1_; clear n0_ n1_)); have p12 : 0 ≤ (x13_1 : Int) := of_decide_eq_true (by (with_reducible assumption)); have q12 : (x13_1 : Int) < ((x5_1.length : Int) : Int) := of_decide_eq_true (by (with_reducible assumption)); obtain ⟨go12, co12, eo12, gb12, gl12, cl12, HG12⟩ := Kd.R_form HO_5.out (by omega); (cases eo12); have GB12 := Ak gb12; have GG12 := Ak HG12; clear gb12 gl12 HG12; obtain ⟨hx12_0, hf12_0⟩ := Kd.R_celln 0 HO_5.out (x13_1 : Int) p12 q12; replace p12 := eq_true p12; replace q12 := eq_true q12; obtain ⟨hy13_, hz13_⟩ := Kd.R_celln 0 HO_5.out (x13_1 : Int) (of_decide_eq_true (by (with_reducible assumption))) (of_decide_eq_true (by (with_reducible assumption))); have HP13 := Kd.R_putg HO_5.out (x13_1 : Int) t455) | ((with_reducible refine gate_store (t := 3) (p := 23) rfl ?_); refine store_event (t := 3) (p := 23) (v := ?vo_w14) (w1 := (wr.setCell ⟨go12, (x13_1 : Int).toNat, none⟩ (.int .i64 t455))) ?hg ?ho ?hn ?hr ?_; (case ho => rfl); (case hg => rfl); (case hn => rfl); (case hr => (go_simp; done)); intro w14 hw; have hg : wr.grownBy w14 (some go12) := (by rw [hw]; exact HP13.2); have hp_ : Kd.R (Kd.int .i64) 3 w14 w.heap.size (fun _ => True) (.slice (some ⟨go12, 0, none⟩) x5_1.length co12) y456 := (by rw [hw, Ny456.out]; exact HP13.1); clear HP13; have n0_ := Ak (hp_); have n1_ := Ak ((by rw [hw]; exact below_set (HB.out) GB12.out : Below w.heap.size w w14)); clear HO_5 HB; have HO_5 := n0_; have HB := n1_; clear n0_ n1_ hg hw hp_))
         go_roundg k1
         case measure => have := HK1.out; omega
         case rel => exact ⟨(y456), (wrap64 (x13_1 + 1)), (by rfl), H', ⟨by have := HK1.out; omega⟩, ⟨by exact HO_5.out⟩, ⟨by exact HB.out⟩⟩
        ·rw [if_neg c11] at H
         exact absurd H (by simp)
       ·rw [if_neg c9] at H
        exact absurd H (by simp)
      ·rw [if_neg c8] at H
       exact absurd H (by simp)
     ·rw [if_neg c7] at H
      have c7b0 : decide (x13_1 < (l0.length : Int)) = false := decide_eq_false c7
      clear c7
      obtain rfl := Option.some.inj H
      go_wp2
      go_ret
      exact ⟨_, by rfl, by exact HO_5.out, by exact HB.out⟩
  ·rw [if_neg c4] at H
   exact absurd H (by simp)
 ·rw [if_neg c3] at H
  exact absurd H (by simp)
def q_dict.l0 : Nat → List Int → List Int → List Int → Int → Option (List Int)
 | 0, _, _, _, _ => none
 | k + 1, x0, x3, x4, x5 => if x5 < (x3.length : Int) then (if 0 ≤ x5 then (if 0 ≤ (wrap64 (x5 - 1)) then (if (wrap64 (x5 - 1)) < (x3.length : Int) then ((q_count.f k (wrap64 ((rd x3 x5) - (rd x3 (wrap64 (x5 - 1)))))).bind fun t472 => (if x4.length + t472.length < 140737488355328 then (q_dict.l0 k x0 x3 (x4 ++ t472) (wrap64 (x5 + 1))) else (none))) else (none)) else (none)) else (none)) else ((q_places.f k x0 x3).bind fun t478 => ((q_width.f (wrap64 ((x3.length : Int) - 1))).bind fun t481 => ((q_packed.f k t478 t481).bind fun t482 => (if x4.length + t482.length < 140737488355328 then (some (x4 ++ t482)) else (none)))))
def q_dict.f (k : Nat) (l0 : List Int) : Option (List Int) := (q_distinct.f l0).bind fun t457 => ((q_count.f k (t457.length : Int)).bind fun t460 => (if 0 < (t457.length : Int) then ((q_number.f k (rd t457 0)).bind fun t464 => (if t460.length + t464.length < 140737488355328 then (q_dict.l0 k l0 t457 (t460 ++ t464) 1) else (none))) else (none)))
theorem q_dict.mono_l : ∀ k, (∀ y0 y1 y2 y3, LeO (q_dict.l0 k y0 y1 y2 y3) (q_dict.l0 (k + 1) y0 y1 y2 y3))
 | 0 => fun _ _ _ _ r h => by simp [q_dict.l0] at h
 | k + 1 => by
  have ih0 := q_dict.mono_l k
  ·intro y0 y1 y2 y3
   unfold q_dict.l0
   repeat' first
   | (with_reducible exact ih0 _ _ _ _)
   | (with_reducible exact q_count.mono _ _)
   | (with_reducible exact q_packed.mono _ _ _)
   | (with_reducible exact q_places.mono _ _ _)
   | (with_reducible exact LeO.refl _)
   | (with_reducible refine LeO.ite ?_ ?_)
   | (with_reducible refine LeO.bind ?_ (fun _ => ?_))
theorem q_dict.mono : ∀ a0 k, LeO (q_dict.f k a0) (q_dict.f (k + 1) a0) := by
 intro a0 k
 have ih0 := q_dict.mono_l k
 unfold q_dict.f
 repeat' first
  | (with_reducible exact ih0 _ _ _ _)
  | (with_reducible exact q_count.mono _ _)
  | (with_reducible exact q_number.mono _ _)
  | (with_reducible exact LeO.refl _)
  | (with_reducible refine LeO.ite ?_ ?_)
  | (with_reducible refine LeO.bind ?_ (fun _ => ?_))
def q_dict.T2 : Bool × List (List Nat × List Nat) := (true, [([], []), ([0], [0]), ([1], [1]), ([], []), ([3], [3]), ([4], [4]), ([5, 2], [5]), ([2, 6, 6], [2, 6]), ([7, 7, 0, 1, 2, 3, 4, 5, 6, 7], [7])])
def q_dict.B2 : List Nat := [0, 1, 3, 0, 8, 24, 63, 127, 255]
theorem q_dict.tab2 : rtab .any (opsOf Try.f83 2) = q_dict.T2 := by kernel_rfl
theorem q_dict.bits2 : waitsOk q_dict.T2.2 q_dict.B2 = true := by kernel_rfl
def q_dict.T6 : Bool × List (List Nat × List Nat) := (true, [([], []), ([], []), ([], []), ([1, 2], [1, 2]), ([3], [3]), ([], []), ([], []), ([6], [6]), ([5, 7], [5, 7]), ([8], [8]), ([4, 9], [4, 9]), ([10], [10]), ([0, 11, 11], [0, 11]), ([12, 12, 0, 1, 2, 3, 4, 5, 6, 7, 8, 9, 10, 11, 12], [0, 12])])
def q_dict.B6 : List Nat := [0, 0, 0, 6, 14, 0, 0, 64, 224, 480, 1022, 2046, 4095, 8191]
theorem q_dict.tab6 : rtab .any (opsOf Try.f83 6) = q_dict.T6 := by kernel_rfl
theorem q_dict.bits6 : waitsOk q_dict.T6.2 q_dict.B6 = true := by kernel_rfl
set_option maxHeartbeats 8000000 in
set_option maxRecDepth 100000 in
theorem q_dict.calls (k : Nat) (A0 : Option Addr) (c0 : Nat) (l0 : List Int) (r : List Int) (w : World) (hr0 : Kd.C (Kd.int .i64) w A0 l0.length l0) (hc0 : l0.length ≤ c0) (h : q_dict.f k l0 = some r) :
 Calls Try.prog 83 #[.slice A0 l0.length c0] w fun e w' => ∃ v0_ : Value, e = .returned (v0_) ∧ Kd.R (Kd.int .u8) 5 w' w.heap.size (fun _ => True) v0_ r ∧ Below w.heap.size w w' := by
 have HR0 := Ak hr0
 have HC0 := Ak hc0
 clear hr0 hc0
 have HB := Ak (Below.refl w.heap.size w)
 have H : ((q_distinct.f l0).bind fun t457 => ((q_count.f k (t457.length : Int)).bind fun t460 => (if 0 < (t457.length : Int) then ((q_number.f k (rd t457 0)).bind fun t464 => (if t460.length + t464.length < 140737488355328 then (q_dict.l0 k l0 t457 (t460 ++ t464) 1) else (none))) else (none)))) = some r := h
 clear h
 replace H := Option.bind_eq_some_iff.mp H
 obtain ⟨t457, A20, H⟩ := H
 replace H : ((q_count.f k (t457.length : Int)).bind fun t460 => (if 0 < (t457.length : Int) then ((q_number.f k (rd t457 0)).bind fun t464 => (if t460.length + t464.length < 140737488355328 then (q_dict.l0 k l0 t457 (t460 ++ t464) 1) else (none))) else (none))) = some r := H
 have A2 := Ak A20
 clear A20
 replace H := Option.bind_eq_some_iff.mp H
 obtain ⟨t460, A30, H⟩ := H
 replace H : (if 0 < (t457.length : Int) then ((q_number.f k (rd t457 0)).bind fun t464 => (if t460.length + t464.length < 140737488355328 then (q_dict.l0 k l0 t457 (t460 ++ t464) 1) else (none))) else (none)) = some r := H
 have A3 := Ak A30
 clear A30
 by_cases c4 : 0 < (t457.length : Int)
 ·rw [if_pos c4] at H
  have c4b0 : decide (0 < (t457.length : Int)) = true := decide_eq_true c4
  have c4b1 : decide (0 < t457.length) = true := decide_eq_true (by omega)
  clear c4
  replace H := Option.bind_eq_some_iff.mp H
  obtain ⟨t464, A50, H⟩ := H
  replace H : (if t460.length + t464.length < 140737488355328 then (q_dict.l0 k l0 t457 (t460 ++ t464) 1) else (none)) = some r := H
  have A5 := Ak A50
  clear A50
  by_cases c6 : t460.length + t464.length < 140737488355328
  ·rw [if_pos c6] at H
   have LMc6 := Ak c6
   clear c6
   obtain ⟨y467, hy467⟩ : ∃ y_ : List Int, y_ = (t460 ++ t464) := ⟨_, rfl⟩
   replace H : (q_dict.l0 k l0 t457 y467 1) = some r := by (rw [hy467]; with_reducible exact H)
   have Ny467 := Ak hy467
   clear hy467
   have H' := Ak H
   clear H
   go_enter Try.func83, Try.ntmps83
   try go_wp2_with (first | ((with_reducible refine gate_callee (f := 115) rfl ?_); refine goesL_ (some 7) rfl rfl Try.func115 (by kernel_rfl) rfl #[.slice A0 l0.length c0] rfl (by (try simp only [lm]); rfl) ?_; (with_reducible refine (q_distinct.calls _ _ l0 t457 _ ?side1 ?side2 A2.out).mono ?_); (case side1 => repeat (exact HR0.out)); (case side2 => exact HC0.out); rintro e w7 ⟨v458, rfl, ho0, hb⟩; refine ⟨_, rfl, ?_⟩; have n0_ := Ak (Kd.R_lower ho0 (below_size (by exact HB.out))); have n1_ := Ak (below_step (by exact HB.out) hb); clear HB; have HO459 := n0_; have HB := n1_; clear n0_ n1_; (try clear hb); (try clear ho0)))
   have n0_ := Ak (Kd.R_drew HO459.out)
   have n1_ := Ak (below_drew1 HB.out)
   clear HO459 HB
   have HO459 := n0_
   have HB := n1_
   clear n0_ n1_
   obtain ⟨Ao9, co9, eo9⟩ := Kd.R_slice HO459.out
   (subst eo9)
   have p463 : 0 ≤ (0 : Int) := (by omega)
   have q463 : 0 < (t457.length : Int) := of_decide_eq_true (by (with_reducible assumption))
   obtain ⟨ad463, e463, hx463_0⟩ := Kd.at_int (Kd.R_reads' HO459.out).2.2 0 p463 q463
   cases e463
   have qi463 : (0 < t457.length) = True := eq_true (by omega)
   (try rw [show ((0 : Int)).toNat = 0 from rfl] at hx463_0)
   (try rw [Addr.add_zero'] at hx463_0)
   replace p463 := eq_true p463
   replace q463 := eq_true q463
   refine start_ (n := 9) (S := fun w' => w'.cell? ad463 = some (.int .i64 (rd t457 0))) (ds := [7]) #[false, false, false, false, false, false, false, false, false] (by kernel_rfl) rfl rfl (hx463_0) (fun hHeld => ?_); refine with_tabW q_dict.tab2 q_dict.bits2 (fun HT_ HW_ => ?_)
   generalize w7.drew = w8 at HO459 HB hx463_0 hHeld ⊢
   refine pure_ (i := 0) (N := some 8) (v := ?_) (a' := ?_) #[true, false, false, false, false, false, false, false, false] rfl rfl (any_of HT_.out (by kernel_rfl)) (fun _ _ _ h => h) (Or.inl ⟨by rfl, ?_⟩) ?_ ?_
   rotate_left
   ·intro w'
    go_simp
    with_reducible rfl
   rotate_left
   ·simp only [Act.put, List.setIfInBounds_toArray, List.set_cons_zero, List.set_cons_succ, i64_w, i32_w]
    rfl
   refine pure_ (i := 1) (N := some 9) (v := ?_) (a' := ?_) #[true, true, false, false, false, false, false, false, false] rfl rfl (any_of HT_.out (by kernel_rfl)) (fun _ _ _ h => h) (Or.inl ⟨by rfl, ?_⟩) ?_ ?_
   rotate_left
   ·intro w'
    go_simp
    with_reducible rfl
   rotate_left
   ·simp only [Act.put, List.setIfInBounds_toArray, List.set_cons_zero, List.set_cons_succ, i64_w, i32_w]
    rfl
   refine pure_ (i := 3) (N := some 11) (v := ?_) (a' := ?_) #[true, true, false, true, false, false, false, false, false] rfl rfl (any_of HT_.out (by kernel_rfl)) (fun _ _ _ h => h) (Or.inl ⟨by rfl, ?_⟩) ?_ ?_
   rotate_left
   ·intro w'
    go_simp
    with_reducible rfl
   rotate_left
   ·simp only [Act.put, List.setIfInBounds_toArray, List.set_cons_zero, List.set_cons_succ, i64_w, i32_w]
    rfl
   refine pure_ (i := 4) (N := some 12) (v := ?_) (a' := ?_) #[true, true, false, true, true, false, false, false, false] rfl rfl (any_of HT_.out (by kernel_rfl)) (fun _ _ _ h => h) (Or.inl ⟨by rfl, ?_⟩) ?_ ?_
   rotate_left
   ·intro w'
    go_simp
    with_reducible rfl
   rotate_left
   ·simp only [Act.put, List.setIfInBounds_toArray, List.set_cons_zero, List.set_cons_succ, i64_w, i32_w]
    rfl
   refine take_ (i := 5) (N := some 13) (v := ?_) (a' := ?_) #[true, true, false, true, true, true, false, false, false] rfl rfl (take_ofW HT_.out HW_.out (by kernel_rfl)) (fun _ _ _ h => h) (Or.inl ⟨by rfl, ?_⟩) hHeld ?_ ?_
   rotate_left
   ·intro w' s0
    go_simp
    with_reducible rfl
   rotate_left
   ·simp only [Act.put, List.setIfInBounds_toArray, List.set_cons_zero, List.set_cons_succ, i64_w, i32_w]
    rfl
   refine one_ (i := 2) (N := some 10) #[true, true, true, true, true, true, false, false, false] rfl rfl (one_of HT_.out (by kernel_rfl)) (by decide) (fun K hK => ?_)
   refine goes_ Try.func55 (by kernel_rfl) rfl #[.int .i64 (t457.length : Int)] (by rfl) rfl rfl (by (try simp only [lm]); rfl) ?_
   with_reducible refine (q_count.calls k (t457.length : Int) t460 _ A3.out).mono ?_
   rintro e w10 ⟨v461, rfl, ho0, hb⟩
   have HS0_ := (hb.cell (World.block_lt_of_cell? _ _ (hHeld))).trans (hHeld)
   refine ⟨_, rfl, ?_⟩
   have n0_ := Ak (Kd.R_below (by exact HO459.out) hb)
   have n1_ := Ak (Kd.R_lower ho0 (below_size (by exact HB.out)))
   have n2_ := Ak (below_step (by exact HB.out) hb)
   clear HO459 HB
   have HO459 := n0_
   have HO462 := n1_
   have HB := n2_
   clear n0_ n1_ n2_
   (try clear hb)
   (try clear hb2)
   (try clear hk)
   (try clear hi)
   (try clear ho0)
   refine hK.out _ _ (HS0_) (fun hHeld => ?_)
   clear hK K
   refine norm_ (a' := ?_) ?_ ?_
   rotate_left
   ·show Act.put _ (some 10) _ = _
    simp only [Act.put, List.setIfInBounds_toArray, List.set_cons_zero, List.set_cons_succ, i64_w, i32_w]
    rfl
   refine one_ (i := 6) (N := some 14) #[true, true, true, true, true, true, true, false, false] rfl rfl (one_of HT_.out (by kernel_rfl)) (by decide) (fun K hK => ?_)
   refine goes_ Try.func81 (by kernel_rfl) rfl #[.int .i64 (rd t457 0)] (by rfl) rfl rfl (by (try simp only [lm]); rfl) ?_
   with_reducible refine (q_number.calls k (rd t457 0) t464 _ A5.out).mono ?_
   rintro e w11 ⟨v465, rfl, ho0, hb⟩
   have HS0_ := (hb.cell (World.block_lt_of_cell? _ _ (hHeld))).trans (hHeld)
   refine ⟨_, rfl, ?_⟩
   have n0_ := Ak (Kd.R_below (by exact HO459.out) hb)
   have n1_ := Ak (Kd.R_elder' (by exact HO462.out) (Kd.R_base ho0) hb)
   have n2_ := Ak (Kd.R_lower (Kd.R_new' ho0 (Kd.R_lt (by exact HO462.out))) (below_size (by exact HB.out)))
   have n3_ := Ak (below_step (by exact HB.out) hb)
   clear HO459 HO462 HB
   have HO459 := n0_
   have HO462 := n1_
   have HO466 := n2_
   have HB := n3_
   clear n0_ n1_ n2_ n3_
   (try clear hb)
   (try clear hb2)
   (try clear hk)
   (try clear hi)
   (try clear ho0)
   obtain ⟨Ao13, co13, eo13⟩ := Kd.R_slice HO466.out
   (subst eo13)
   refine hK.out _ _ (HS0_) (fun hHeld => ?_)
   clear hK K
   refine norm_ (a' := ?_) ?_ ?_
   rotate_left
   ·show Act.put _ (some 14) _ = _
    simp only [Act.put, List.setIfInBounds_toArray, List.set_cons_zero, List.set_cons_succ, i64_w, i32_w]
    rfl
   refine last_ (i := 7) (N := some 15) #[true, true, true, true, true, true, true, true, false] rfl rfl (one_of HT_.out (by kernel_rfl)) (by decide) (fun K hK => ?_)
   refine Kd.R_append_rows_step (Kd.int .u8) (w0 := w) w.heap.size (by rfl) (.tmp 10) (.tmp 14) 27 5 (.int .u8 0) 1 rfl Try.underlying27 info5 rfl (by decide) (by omega) v461 t460 t464 _ _ _ (fun k_ => some k_ ≠ (.slice Ao13 t464.length co13 : Value).ownBlock) (fun _ => False) rfl rfl ?aO ?aR (fun _ _ h => h) (fun _ h => h.elim) ?aF ?aB ?aS ?aL ?_
   (case aR => repeat (exact (Kd.R_reads' HO466.out).2.2))
   (case aB => exact (by exact HB.out))
   (case aF => exact (fun k_ hk => Kd.fresh' (Kd.R_lt (by exact HO466.out)) k_ hk))
   (case aO => exact (by exact Kd.R_mono HO462.out (fun _ hk => hk.2)))
   (case aS => exact (below_size (by exact HB.out)))
   (case aL => have := LMc6.out; omega)
   intro v468 w12 ho hb hg hat
   rw [← Ny467.out] at ho
   have n0_ := Ak (Kd.R_over' (by exact HO459.out) (Kd.R_typed (by exact HO462.out)) (by decide) hg)
   have n1_ := Ak (Kd.R_after (ok := (fun _ => True)) (by exact HO466.out) hg hat)
   have n2_ := Ak (hb)
   have n3_ := Ak (ho)
   clear HO459 HO466 HB HO462
   have HO459 := n0_
   have HO466 := n1_
   have HB := n2_
   have HO469 := n3_
   clear n0_ n1_ n2_ n3_ ho hb hg hat
   refine hK.out _ _ ?_
   clear hK K
   refine norm_ (a' := ?_) ?_ ?_
   rotate_left
   ·show Act.put _ (some 15) _ = _
    simp only [Act.put, List.setIfInBounds_toArray, List.set_cons_zero, List.set_cons_succ, i64_w, i32_w]
    rfl
   refine pure_ (i := 8) (N := some 4) (v := ?_) (a' := ?_) #[true, true, true, true, true, true, true, true, true] rfl rfl (any_of HT_.out (by kernel_rfl)) (fun _ _ _ h => h) (Or.inl ⟨by rfl, ?_⟩) ?_ ?_
   rotate_left
   ·intro w'
    go_simp
    with_reducible rfl
   rotate_left
   ·simp only [Act.put, List.setIfInBounds_toArray, List.set_cons_zero, List.set_cons_succ, i64_w, i32_w]
    rfl
   refine done_ (done_of HT_.out (by kernel_rfl)) ?_
   try go_wp2
   go_loopg [4, 5] k (fun kq v4 v5 w' => ∃ (x4_1 : List Int) (x5_1 : Int), v5 = .int .i64 x5_1 ∧ Aside0 (q_dict.l0 kq l0 t457 x4_1 x5_1 = some r) ∧ Aside0 (kq ≤ k) ∧ Aside0 (Kd.R (Kd.int .i64) 3 w' w.heap.size (fun _ => True) (.slice (some ad463) t457.length co9) t457) ∧ Aside0 (Kd.R (Kd.int .u8) 5 w' w.heap.size (fun _ => True) v4 x4_1) ∧ Aside0 (Below w.heap.size w w'))
   case atStart => exact ⟨(y467), (1), (by rfl), H', ⟨Nat.le_refl _⟩, ⟨by exact HO459.out⟩, ⟨by exact Kd.R_mono HO469.out (fun _ hk => trivial)⟩, ⟨by exact HB.out⟩⟩
   case round =>
    clear H'
    try clear c4b0
    try clear c4b1
    try clear hx463_0
    try clear p463
    try clear q463
    obtain ⟨x4_1, x5_1, rfl, HA, HK1, HO_3, HO_4, HB⟩ := hrel
    cases gk with
    | zero => exact absurd HA.out (by simp [q_dict.l0])
    | succ k1 =>
     have H := HA.out
     clear HA
     simp only [q_dict.l0] at H
     by_cases c14 : x5_1 < (t457.length : Int)
     ·rw [if_pos c14] at H
      have c14b0 : decide (x5_1 < (t457.length : Int)) = true := decide_eq_true c14
      clear c14
      by_cases c15 : 0 ≤ x5_1
      ·rw [if_pos c15] at H
       have c15b0 : decide (0 ≤ x5_1) = true := decide_eq_true c15
       clear c15
       obtain ⟨ji16, hji16⟩ : ∃ j_ : Int, (wrap64 (x5_1 - 1)) = j_ := ⟨_, rfl⟩
       replace H : (if 0 ≤ (ji16) then (if (ji16) < (t457.length : Int) then ((q_count.f k1 (wrap64 ((rd t457 x5_1) - (rd t457 (ji16))))).bind fun t472 => (if x4_1.length + t472.length < 140737488355328 then (q_dict.l0 k1 l0 t457 (x4_1 ++ t472) (wrap64 (x5_1 + 1))) else (none))) else (none)) else (none)) = some r := by (rw [hji16] at H; exact H)
       have hji16w : (IntKind.i64.wrap (x5_1 - 1)) = ji16 := (i64_w _).trans hji16
       by_cases c17 : 0 ≤ (ji16)
       ·rw [if_pos c17] at H
        have c17b0 : decide (0 ≤ (ji16)) = true := decide_eq_true c17
        clear c17
        by_cases c18 : (ji16) < (t457.length : Int)
        ·rw [if_pos c18] at H
         have c18b0 : decide ((ji16) < (t457.length : Int)) = true := decide_eq_true c18
         clear c18
         replace H := Option.bind_eq_some_iff.mp H
         obtain ⟨t472, A190, H⟩ := H
         replace H : (if x4_1.length + t472.length < 140737488355328 then (q_dict.l0 k1 l0 t457 (x4_1 ++ t472) (wrap64 (x5_1 + 1))) else (none)) = some r := H
         have A19 := Ak A190
         clear A190
         by_cases c20 : x4_1.length + t472.length < 140737488355328
         ·rw [if_pos c20] at H
          have LMc20 := Ak c20
          clear c20
          obtain ⟨y475, hy475⟩ : ∃ y_ : List Int, y_ = (x4_1 ++ t472) := ⟨_, rfl⟩
          replace H : (q_dict.l0 k1 l0 t457 y475 (wrap64 (x5_1 + 1))) = some r := by (rw [hy475]; with_reducible exact H)
          have Ny475 := Ak hy475
          clear hy475
          have H' := Ak H
          clear H
          try go_wp2
          have n0_ := Ak (Kd.R_drew HO_3.out)
          have n1_ := Ak (Kd.R_drew HO_4.out)
          have n2_ := Ak (below_drew1 HB.out)
          clear HO_3 HO_4 HB
          have HO_3 := n0_
          have HO_4 := n1_
          have HB := n2_
          clear n0_ n1_ n2_
          have p470 : 0 ≤ (x5_1 : Int) := of_decide_eq_true (by (with_reducible assumption))
          have q470 : x5_1 < (t457.length : Int) := of_decide_eq_true (by (with_reducible assumption))
          obtain ⟨ad470, e470, hx470_0⟩ := Kd.at_int (Kd.R_reads' HO_3.out).2.2 x5_1 p470 q470
          obtain rfl : ad463 = ad470 := (by injection e470)
          replace p470 := eq_true p470
          replace q470 := eq_true q470
          have p471 : 0 ≤ ((ji16) : Int) := of_decide_eq_true (by (with_reducible assumption))
          have q471 : (ji16) < (t457.length : Int) := of_decide_eq_true (by (with_reducible assumption))
          obtain ⟨ad471, e471, hx471_0⟩ := Kd.at_int (Kd.R_reads' HO_3.out).2.2 (ji16) p471 q471
          obtain rfl : ad463 = ad471 := (by injection e471)
          replace p471 := eq_true p471
          replace q471 := eq_true q471
          refine start_ (n := 14) (S := fun w' => w'.cell? (ad463.add (x5_1).toNat) = some (.int .i64 (rd t457 x5_1)) ∧ w'.cell? (ad463.add ((ji16)).toNat) = some (.int .i64 (rd t457 (ji16)))) (ds := [12]) #[false, false, false, false, false, false, false, false, false, false, false, false, false, false] (by kernel_rfl) rfl rfl ⟨hx470_0, hx471_0⟩ (fun hHeld => ?_); refine with_tabW q_dict.tab6 q_dict.bits6 (fun HT_ HW_ => ?_)
          generalize wr.drew = w21 at HO_3 HO_4 HB hx470_0 hx471_0 hHeld ⊢
          refine pure_ (i := 0) (N := some 22) (v := ?_) (a' := ?_) #[true, false, false, false, false, false, false, false, false, false, false, false, false, false] rfl rfl (any_of HT_.out (by kernel_rfl)) (fun _ _ _ h => h) (Or.inl ⟨by rfl, ?_⟩) ?_ ?_
          rotate_left
          ·intro w'
           go_simp
           with_reducible rfl
          rotate_left
          ·simp only [Act.put, List.setIfInBounds_toArray, List.set_cons_zero, List.set_cons_succ, i64_w, i32_w]
           rfl
          refine pure_ (i := 1) (N := some 23) (v := ?_) (a' := ?_) #[true, true, false, false, false, false, false, false, false, false, false, false, false, false] rfl rfl (any_of HT_.out (by kernel_rfl)) (fun _ _ _ h => h) (Or.inl ⟨by rfl, ?_⟩) ?_ ?_
          rotate_left
          ·intro w'
           go_simp
           with_reducible rfl
          rotate_left
          ·simp only [Act.put, List.setIfInBounds_toArray, List.set_cons_zero, List.set_cons_succ, i64_w, i32_w]
           rfl
          refine pure_ (i := 2) (N := some 24) (v := ?_) (a' := ?_) #[true, true, true, false, false, false, false, false, false, false, false, false, false, false] rfl rfl (any_of HT_.out (by kernel_rfl)) (fun _ _ _ h => h) (Or.inl ⟨by rfl, ?_⟩) ?_ ?_
          rotate_left
          ·intro w'
           go_simp
           with_reducible rfl
          rotate_left
          ·simp only [Act.put, List.setIfInBounds_toArray, List.set_cons_zero, List.set_cons_succ, i64_w, i32_w]
           rfl
          refine pure_ (i := 3) (N := some 25) (v := ?_) (a' := ?_) #[true, true, true, true, false, false, false, false, false, false, false, false, false, false] rfl rfl (any_of HT_.out (by kernel_rfl)) (fun _ _ _ h => h) (Or.inl ⟨by rfl, ?_⟩) ?_ ?_
          rotate_left
          ·intro w'
           go_simp
           with_reducible rfl
          rotate_left
          ·simp only [Act.put, List.setIfInBounds_toArray, List.set_cons_zero, List.set_cons_succ, i64_w, i32_w]
           rfl
          refine pure_ (i := 5) (N := some 27) (v := ?_) (a' := ?_) #[true, true, true, true, false, true, false, false, false, false, false, false, false, false] rfl rfl (any_of HT_.out (by kernel_rfl)) (fun _ _ _ h => h) (Or.inl ⟨by rfl, ?_⟩) ?_ ?_
          rotate_left
          ·intro w'
           go_simp
           with_reducible rfl
          rotate_left
          ·simp only [Act.put, List.setIfInBounds_toArray, List.set_cons_zero, List.set_cons_succ, i64_w, i32_w]
           rfl
          refine pure_ (i := 6) (N := some 28) (v := ?_) (a' := ?_) #[true, true, true, true, false, true, true, false, false, false, false, false, false, false] rfl rfl (any_of HT_.out (by kernel_rfl)) (fun _ _ _ h => h) (Or.inl ⟨by rfl, ?_⟩) ?_ ?_
          rotate_left
          ·intro w'
           go_simp
           with_reducible rfl
          rotate_left
          ·simp only [Act.put, List.setIfInBounds_toArray, List.set_cons_zero, List.set_cons_succ, i64_w, i32_w]
           rfl
          refine pure_ (i := 7) (N := some 29) (v := ?_) (a' := ?_) #[true, true, true, true, false, true, true, true, false, false, false, false, false, false] rfl rfl (any_of HT_.out (by kernel_rfl)) (fun _ _ _ h => h) (Or.inl ⟨by rfl, ?_⟩) ?_ ?_
          rotate_left
          ·intro w'
           go_simp
           with_reducible rfl
          rotate_left
          ·simp only [Act.put, List.setIfInBounds_toArray, List.set_cons_zero, List.set_cons_succ, i64_w, i32_w]
           rfl
          refine pure_ (i := 8) (N := some 30) (v := ?_) (a' := ?_) #[true, true, true, true, false, true, true, true, true, false, false, false, false, false] rfl rfl (any_of HT_.out (by kernel_rfl)) (fun _ _ _ h => h) (Or.inl ⟨by rfl, ?_⟩) ?_ ?_
          rotate_left
          ·intro w'
           go_simp
           with_reducible rfl
          rotate_left
          ·simp only [Act.put, List.setIfInBounds_toArray, List.set_cons_zero, List.set_cons_succ, i64_w, i32_w]
           rfl
          refine take_ (i := 4) (N := some 26) (v := ?_) (a' := ?_) #[true, true, true, true, true, true, true, true, true, false, false, false, false, false] rfl rfl (take_ofW HT_.out HW_.out (by kernel_rfl)) (fun _ _ _ h => h) (Or.inl ⟨by rfl, ?_⟩) hHeld ?_ ?_
          rotate_left
          ·rintro w' ⟨s0, s1⟩
           go_simp
           with_reducible rfl
          rotate_left
          ·simp only [Act.put, List.setIfInBounds_toArray, List.set_cons_zero, List.set_cons_succ, i64_w, i32_w]
           rfl
          refine take_ (i := 9) (N := some 31) (v := ?_) (a' := ?_) #[true, true, true, true, true, true, true, true, true, true, false, false, false, false] rfl rfl (take_ofW HT_.out HW_.out (by kernel_rfl)) (fun _ _ _ h => h) (Or.inl ⟨by rfl, ?_⟩) hHeld ?_ ?_
          rotate_left
          ·rintro w' ⟨s0, s1⟩
           go_simp
           with_reducible rfl
          rotate_left
          ·simp only [Act.put, List.setIfInBounds_toArray, List.set_cons_zero, List.set_cons_succ, i64_w, i32_w]
           rfl
          refine pure_ (i := 10) (N := some 32) (v := ?_) (a' := ?_) #[true, true, true, true, true, true, true, true, true, true, true, false, false, false] rfl rfl (any_of HT_.out (by kernel_rfl)) (fun _ _ _ h => h) (Or.inl ⟨by rfl, ?_⟩) ?_ ?_
          rotate_left
          ·intro w'
           go_simp
           with_reducible rfl
          rotate_left
          ·simp only [Act.put, List.setIfInBounds_toArray, List.set_cons_zero, List.set_cons_succ, i64_w, i32_w]
           rfl
          refine one_ (i := 11) (N := some 33) #[true, true, true, true, true, true, true, true, true, true, true, true, false, false] rfl rfl (one_of HT_.out (by kernel_rfl)) (by decide) (fun K hK => ?_)
          refine goes_ Try.func55 (by kernel_rfl) rfl #[.int .i64 (wrap64 ((rd t457 x5_1) - (rd t457 (ji16))))] (by rfl) rfl rfl (by (try simp only [lm]); rfl) ?_
          with_reducible refine (q_count.calls k1 (wrap64 ((rd t457 x5_1) - (rd t457 (ji16)))) t472 _ A19.out).mono ?_
          rintro e w22 ⟨v473, rfl, ho0, hb⟩
          have HS0_ := (hb.cell (World.block_lt_of_cell? _ _ (hHeld.1))).trans (hHeld.1)
          have HS1_ := (hb.cell (World.block_lt_of_cell? _ _ (hHeld.2))).trans (hHeld.2)
          refine ⟨_, rfl, ?_⟩
          have n0_ := Ak (Kd.R_below (by exact HO_3.out) hb)
          have n1_ := Ak (Kd.R_elder' (by exact HO_4.out) (Kd.R_base ho0) hb)
          have n2_ := Ak (Kd.R_lower (Kd.R_new' ho0 (Kd.R_lt (by exact HO_4.out))) (below_size (by exact HB.out)))
          have n3_ := Ak (below_step (by exact HB.out) hb)
          clear HO_3 HO_4 HB
          have HO_3 := n0_
          have HO_4 := n1_
          have HO474 := n2_
          have HB := n3_
          clear n0_ n1_ n2_ n3_
          (try clear hb)
          (try clear hb2)
          (try clear hk)
          (try clear hi)
          (try clear ho0)
          obtain ⟨Ao24, co24, eo24⟩ := Kd.R_slice HO474.out
          (subst eo24)
          refine hK.out _ _ ⟨HS0_, HS1_⟩ (fun hHeld => ?_)
          clear hK K
          refine norm_ (a' := ?_) ?_ ?_
          rotate_left
          ·show Act.put _ (some 33) _ = _
           simp only [Act.put, List.setIfInBounds_toArray, List.set_cons_zero, List.set_cons_succ, i64_w, i32_w]
           rfl
          refine last_ (i := 12) (N := some 34) #[true, true, true, true, true, true, true, true, true, true, true, true, true, false] rfl rfl (one_of HT_.out (by kernel_rfl)) (by decide) (fun K hK => ?_)
          refine Kd.R_append_rows_step (Kd.int .u8) (w0 := w) w.heap.size (by rfl) (.tmp 22) (.tmp 33) 27 5 (.int .u8 0) 1 rfl Try.underlying27 info5 rfl (by decide) (by omega) u4 x4_1 t472 _ _ _ (fun k_ => some k_ ≠ (.slice Ao24 t472.length co24 : Value).ownBlock) (fun _ => False) rfl rfl ?aO ?aR (fun _ _ h => h) (fun _ h => h.elim) ?aF ?aB ?aS ?aL ?_
          (case aR => repeat (exact (Kd.R_reads' HO474.out).2.2))
          (case aB => exact (by exact HB.out))
          (case aF => exact (fun k_ hk => Kd.fresh' (Kd.R_lt (by exact HO474.out)) k_ hk))
          (case aO => exact (by exact Kd.R_mono HO_4.out (fun _ hk => hk.2)))
          (case aS => exact (below_size (by exact HB.out)))
          (case aL => have := LMc20.out; omega)
          intro v476 w23 ho hb hg hat
          rw [← Ny475.out] at ho
          have n0_ := Ak (Kd.R_over' (by exact HO_3.out) (Kd.R_typed (by exact HO_4.out)) (by decide) hg)
          have n1_ := Ak (Kd.R_after (ok := (fun _ => True)) (by exact HO474.out) hg hat)
          have n2_ := Ak (hb)
          have n3_ := Ak (ho)
          clear HO_3 HO474 HB HO_4
          have HO_3 := n0_
          have HO474 := n1_
          have HB := n2_
          have HO477 := n3_
          clear n0_ n1_ n2_ n3_ ho hb hg hat
          refine hK.out _ _ ?_
          clear hK K
          refine norm_ (a' := ?_) ?_ ?_
          rotate_left
          ·show Act.put _ (some 34) _ = _
           simp only [Act.put, List.setIfInBounds_toArray, List.set_cons_zero, List.set_cons_succ, i64_w, i32_w]
           rfl
          refine pure_ (i := 13) (N := some 4) (v := ?_) (a' := ?_) #[true, true, true, true, true, true, true, true, true, true, true, true, true, true] rfl rfl (any_of HT_.out (by kernel_rfl)) (fun _ _ _ h => h) (Or.inl ⟨by rfl, ?_⟩) ?_ ?_
          rotate_left
          ·intro w'
           go_simp
           with_reducible rfl
          rotate_left
          ·simp only [Act.put, List.setIfInBounds_toArray, List.set_cons_zero, List.set_cons_succ, i64_w, i32_w]
           rfl
          refine done_ (done_of HT_.out (by kernel_rfl)) ?_
          try go_wp2
          go_roundg k1
          case measure => have := HK1.out; omega
          case rel => exact ⟨(y475), (wrap64 (x5_1 + 1)), (by rfl), H', ⟨by have := HK1.out; omega⟩, ⟨by exact HO_3.out⟩, ⟨by exact Kd.R_mono HO477.out (fun _ hk => trivial)⟩, ⟨by exact HB.out⟩⟩
         ·rw [if_neg c20] at H
          exact absurd H (by simp)
        ·rw [if_neg c18] at H
         exact absurd H (by simp)
       ·rw [if_neg c17] at H
        exact absurd H (by simp)
      ·rw [if_neg c15] at H
       exact absurd H (by simp)
     ·rw [if_neg c14] at H
      have c14b0 : decide (x5_1 < (t457.length : Int)) = false := decide_eq_false c14
      clear c14
      replace H := Option.bind_eq_some_iff.mp H
      obtain ⟨t478, A250, H⟩ := H
      replace H : ((q_width.f (wrap64 ((t457.length : Int) - 1))).bind fun t481 => ((q_packed.f k1 t478 t481).bind fun t482 => (if x4_1.length + t482.length < 140737488355328 then (some (x4_1 ++ t482)) else (none)))) = some r := H
      have A25 := Ak A250
      clear A250
      replace H := Option.bind_eq_some_iff.mp H
      obtain ⟨t481, A260, H⟩ := H
      replace H : ((q_packed.f k1 t478 t481).bind fun t482 => (if x4_1.length + t482.length < 140737488355328 then (some (x4_1 ++ t482)) else (none))) = some r := H
      have A26 := Ak A260
      clear A260
      replace H := Option.bind_eq_some_iff.mp H
      obtain ⟨t482, A270, H⟩ := H
      replace H : (if x4_1.length + t482.length < 140737488355328 then (some (x4_1 ++ t482)) else (none)) = some r := H
      have A27 := Ak A270
      clear A270
      by_cases c28 : x4_1.length + t482.length < 140737488355328
      ·rw [if_pos c28] at H
       have LMc28 := Ak c28
       clear c28
       obtain ⟨y485, hy485⟩ : ∃ y_ : List Int, y_ = (x4_1 ++ t482) := ⟨_, rfl⟩
       replace H : (some y485) = some r := by (rw [hy485]; with_reducible exact H)
       have Ny485 := Ak hy485
       clear hy485
       obtain rfl := Option.some.inj H
       go_wp2_with (first | ((with_reducible refine gate_callee (f := 116) rfl ?_); refine goesL_ (some 38) rfl rfl Try.func116 (by kernel_rfl) rfl #[.slice A0 l0.length c0, .slice (some ad463) t457.length co9] rfl (by (try simp only [lm]); rfl) ?_; (with_reducible refine (q_places.calls k1 _ _ l0 _ _ t457 t478 _ ?side1 ?side2 ?side3 ?side4 A25.out).mono ?_); (case side1 => repeat (exact (Kd.C_below HR0.out HB.out))); (case side2 => exact HC0.out); (case side3 => repeat (exact (Kd.R_reads' HO_3.out).2.2)); (case side4 => exact (Kd.R_reads' HO_3.out).2.1); rintro e w29 ⟨v479, rfl, ho0, hb⟩; refine ⟨_, rfl, ?_⟩; have n0_ := Ak (Kd.R_elder' (by exact HO_3.out) (Kd.R_base ho0) hb); have n1_ := Ak (Kd.R_below (by exact HO_4.out) hb); have n2_ := Ak (Kd.R_lower (Kd.R_new' ho0 (Kd.R_lt (by exact HO_3.out))) (below_size (by exact HB.out))); have n3_ := Ak (below_step (by exact HB.out) hb); clear HO_3 HO_4 HB; have HO_3 := n0_; have HO_4 := n1_; have HO480 := n2_; have HB := n3_; clear n0_ n1_ n2_ n3_; (try clear hb); (try clear ho0)) | ((with_reducible refine gate_callee (f := 104) rfl ?_); refine goesL_ (some 42) rfl rfl Try.func104 (by kernel_rfl) rfl #[.int .i64 (wrap64 ((t457.length : Int) - 1))] rfl (by (try simp only [lm]); rfl) ?_; (with_reducible refine (q_width.calls (wrap64 ((t457.length : Int) - 1)) t481 _ A26.out).mono ?_); rintro e w' ⟨rfl, ⟨nd, rfl⟩⟩; refine ⟨_, rfl, ?_⟩; obtain ⟨Ao30, co30, eo30⟩ := Kd.R_slice HO480.out; subst eo30) | ((with_reducible refine gate_callee (f := 103) rfl ?_); refine goesL_ (some 43) rfl rfl Try.func103 (by kernel_rfl) rfl #[.slice Ao30 t478.length co30, .int .i64 t481] rfl (by (try simp only [lm]); rfl) ?_; (with_reducible refine (q_packed.calls k1 _ _ t478 t481 t482 _ ?side1 ?side2 A27.out).mono ?_); (case side1 => repeat (exact (Kd.R_reads' HO480.out).2.2)); (case side2 => exact (Kd.R_reads' HO480.out).2.1); rintro e w31 ⟨v483, rfl, ho0, hb⟩; refine ⟨_, rfl, ?_⟩; have n0_ := Ak (Kd.R_below (by (with_reducible repeat (apply Kd.R_drewN)); exact HO_3.out) hb); have n1_ := Ak (Kd.R_elder' (by (with_reducible repeat (apply Kd.R_drewN)); exact HO_4.out) (Kd.R_base ho0) hb); have n2_ := Ak (Kd.R_below (by (with_reducible repeat (apply Kd.R_drewN)); exact HO480.out) hb); have n3_ := Ak (Kd.R_lower (Kd.R_new' ho0 (Kd.R_lt (by (with_reducible repeat (apply Kd.R_drewN)); exact HO_4.out))) (below_size (by repeat ((with_reducible first | exact HB.out | apply pw_below_drewN))))); have n4_ := Ak (below_step (by repeat ((with_reducible first | exact HB.out | apply pw_below_drewN))) hb); clear HO_3 HO_4 HO480 HB; have HO_3 := n0_; have HO_4 := n1_; have HO480 := n2_; have HO484 := n3_; have HB := n4_; clear n0_ n1_ n2_ n3_ n4_; (try clear hb); (try clear ho0); obtain ⟨Ao33, co33, eo33⟩ := Kd.R_slice HO484.out; subst eo33) | ((with_reducible refine gate_builtin (b := .append) (xs := #[.tmp 35, .tmp 43]) rfl ?_); at_builtin; refine Kd.R_append_rows (Kd.int .u8) (w0 := w) w.heap.size rfl (.tmp 35) (.tmp 43) 27 5 (.int .u8 0) 1 rfl Try.underlying27 info5 rfl (by decide) (by omega) u4 x4_1 t482 _ _ _ (fun k_ => some k_ ≠ (.slice Ao33 t482.length co33 : Value).ownBlock) (fun _ => False) rfl rfl ?aO ?aR (fun _ _ h => h) (fun _ h => h.elim) ?aF ?aB ?aS ?aL ?_; (case aR => repeat (exact (Kd.R_reads' HO484.out).2.2)); (case aB => exact (by exact HB.out)); (case aF => exact (fun k_ hk => Kd.fresh' (Kd.R_lt (by exact HO484.out)) k_ hk)); (case aO => exact (by exact Kd.R_mono HO_4.out (fun _ hk => hk.2))); (case aS => exact (below_size (by exact HB.out))); (case aL => have := LMc28.out; omega); intro v486 w32 ho hb hg hat; rw [← Ny485.out] at ho; have n0_ := Ak (Kd.R_over' (by exact HO_3.out) (Kd.R_typed (by exact HO_4.out)) (by decide) hg); have n1_ := Ak (Kd.R_over' (by exact HO480.out) (Kd.R_typed (by exact HO_4.out)) (by decide) hg); have n2_ := Ak (Kd.R_after (ok := (fun _ => True)) (by exact HO484.out) hg hat); have n3_ := Ak (hb); have n4_ := Ak (ho); clear HO_3 HO480 HO484 HB HO_4; have HO_3 := n0_; have HO480 := n1_; have HO484 := n2_; have HB := n3_; have HO487 := n4_; clear n0_ n1_ n2_ n3_ n4_ ho hb hg hat))
       go_ret
       exact ⟨_, by rfl, by exact Kd.R_mono HO487.out (fun _ hk => trivial), by exact HB.out⟩
      ·rw [if_neg c28] at H
       exact absurd H (by simp)
  ·rw [if_neg c6] at H
   exact absurd H (by simp)
 ·rw [if_neg c4] at H
  exact absurd H (by simp)
def q_frame.l0 : Nat → Int → Int → List Int → List Int → Int → Int → Option (List Int)
 | 0, _, _, _, _, _, _ => none
 | k + 1, x3, x4, x5, x19, x20, x21 => if x21 < x20 then (if 0 ≤ x21 then (if x21 < (x19.length : Int) then (if x21 < (x5.length : Int) then (q_frame.l0 k x3 x4 (x5.set (x21 : Int).toNat (wrap64 ((rd x19 x21) - x3))) x19 x20 (wrap64 (x21 + 1))) else (none)) else (none)) else (none)) else ((q_number.f k x3).bind fun t497 => (if t497.length < 140737488355328 then ((some (t497 ++ [(x4) % 256] : List Int)).bind fun y500 => ((q_packed.f k x5 x4).bind fun t503 => (if y500.length + t503.length < 140737488355328 then (some (y500 ++ t503)) else (none)))) else (none)))
def q_frame.f (k : Nat) (l0 : List Int) : Option (List Int) := (s_Min.f l0).bind fun t488 => ((s_Max.f l0).bind fun t489 => ((s_Min.f l0).bind fun t490 => ((q_width.f (wrap64 (t489 - t490))).bind fun t491 => (if 0 ≤ (l0.length : Int) then (if ((l0.length : Int) : Int).toNat ≤ 35184372088832 then (q_frame.l0 k t488 t491 (List.replicate ((l0.length : Int) : Int).toNat 0) l0 (l0.length : Int) 0) else (none)) else (none)))))
theorem q_frame.mono_l : ∀ k, (∀ y0 y1 y2 y3 y4 y5, LeO (q_frame.l0 k y0 y1 y2 y3 y4 y5) (q_frame.l0 (k + 1) y0 y1 y2 y3 y4 y5))
 | 0 => fun _ _ _ _ _ _ r h => by simp [q_frame.l0] at h
 | k + 1 => by
  have ih0 := q_frame.mono_l k
  ·intro y0 y1 y2 y3 y4 y5
   unfold q_frame.l0
   repeat' first
   | (with_reducible exact ih0 _ _ _ _ _ _)
   | (with_reducible exact q_number.mono _ _)
   | (with_reducible exact q_packed.mono _ _ _)
   | (with_reducible exact LeO.refl _)
   | (with_reducible refine LeO.ite ?_ ?_)
   | (with_reducible refine LeO.bind ?_ (fun _ => ?_))
theorem q_frame.mono : ∀ a0 k, LeO (q_frame.f k a0) (q_frame.f (k + 1) a0) := by
 intro a0 k
 have ih0 := q_frame.mono_l k
 unfold q_frame.f
 repeat' first
  | (with_reducible exact ih0 _ _ _ _ _ _)
  | (with_reducible exact LeO.refl _)
  | (with_reducible refine LeO.ite ?_ ?_)
  | (with_reducible refine LeO.bind ?_ (fun _ => ?_))
set_option maxHeartbeats 8000000 in
set_option maxRecDepth 100000 in
theorem q_frame.calls (k : Nat) (A0 : Option Addr) (c0 : Nat) (l0 : List Int) (r : List Int) (w : World) (hr0 : Kd.C (Kd.int .i64) w A0 l0.length l0) (hc0 : l0.length ≤ c0) (h : q_frame.f k l0 = some r) :
 Calls Try.prog 84 #[.slice A0 l0.length c0] w fun e w' => ∃ v0_ : Value, e = .returned (v0_) ∧ Kd.R (Kd.int .u8) 5 w' w.heap.size (fun _ => True) v0_ r ∧ Below w.heap.size w w' := by
 have HR0 := Ak hr0
 have HC0 := Ak hc0
 clear hr0 hc0
 have HB := Ak (Below.refl w.heap.size w)
 have H : ((s_Min.f l0).bind fun t488 => ((s_Max.f l0).bind fun t489 => ((s_Min.f l0).bind fun t490 => ((q_width.f (wrap64 (t489 - t490))).bind fun t491 => (if 0 ≤ (l0.length : Int) then (if ((l0.length : Int) : Int).toNat ≤ 35184372088832 then (q_frame.l0 k t488 t491 (List.replicate ((l0.length : Int) : Int).toNat 0) l0 (l0.length : Int) 0) else (none)) else (none)))))) = some r := h
 clear h
 replace H := Option.bind_eq_some_iff.mp H
 obtain ⟨t488, A20, H⟩ := H
 replace H : ((s_Max.f l0).bind fun t489 => ((s_Min.f l0).bind fun t490 => ((q_width.f (wrap64 (t489 - t490))).bind fun t491 => (if 0 ≤ (l0.length : Int) then (if ((l0.length : Int) : Int).toNat ≤ 35184372088832 then (q_frame.l0 k t488 t491 (List.replicate ((l0.length : Int) : Int).toNat 0) l0 (l0.length : Int) 0) else (none)) else (none))))) = some r := H
 have A2 := Ak A20
 clear A20
 replace H := Option.bind_eq_some_iff.mp H
 obtain ⟨t489, A30, H⟩ := H
 replace H : ((s_Min.f l0).bind fun t490 => ((q_width.f (wrap64 (t489 - t490))).bind fun t491 => (if 0 ≤ (l0.length : Int) then (if ((l0.length : Int) : Int).toNat ≤ 35184372088832 then (q_frame.l0 k t488 t491 (List.replicate ((l0.length : Int) : Int).toNat 0) l0 (l0.length : Int) 0) else (none)) else (none)))) = some r := H
 have A3 := Ak A30
 clear A30
 replace H := Option.bind_eq_some_iff.mp H
 obtain ⟨t490, A40, H⟩ := H
 replace H : ((q_width.f (wrap64 (t489 - t490))).bind fun t491 => (if 0 ≤ (l0.length : Int) then (if ((l0.length : Int) : Int).toNat ≤ 35184372088832 then (q_frame.l0 k t488 t491 (List.replicate ((l0.length : Int) : Int).toNat 0) l0 (l0.length : Int) 0) else (none)) else (none))) = some r := H
 have A4 := Ak A40
 clear A40
 replace H := Option.bind_eq_some_iff.mp H
 obtain ⟨t491, A50, H⟩ := H
 replace H : (if 0 ≤ (l0.length : Int) then (if ((l0.length : Int) : Int).toNat ≤ 35184372088832 then (q_frame.l0 k t488 t491 (List.replicate ((l0.length : Int) : Int).toNat 0) l0 (l0.length : Int) 0) else (none)) else (none)) = some r := H
 have A5 := Ak A50
 clear A50
 by_cases c6 : 0 ≤ (l0.length : Int)
 ·rw [if_pos c6] at H
  have c6b0 := eq_true c6
  have c6b1 : decide (0 ≤ (l0.length : Int)) = true := decide_eq_true c6
  clear c6
  by_cases c7 : ((l0.length : Int) : Int).toNat ≤ 35184372088832
  ·rw [if_pos c7] at H
   have c7b0 := eq_true c7
   have c7b1 : decide (((l0.length : Int) : Int).toNat ≤ 35184372088832) = true := decide_eq_true c7
   clear c7
   obtain ⟨y492, hy492⟩ : ∃ y_ : List Int, y_ = (List.replicate ((l0.length : Int) : Int).toNat 0) := ⟨_, rfl⟩
   replace H : (q_frame.l0 k t488 t491 y492 l0 (l0.length : Int) 0) = some r := by (rw [hy492]; with_reducible exact H)
   have Ny492 := Ak hy492
   clear hy492
   have H' := Ak H
   clear H
   go_enter Try.func84, Try.ntmps84
   go_wp2_with (first | ((with_reducible refine gate_callee (f := 30) rfl ?_); refine goesL_ (some 9) rfl rfl Try.func30 (by kernel_rfl) rfl #[.slice A0 l0.length c0] rfl (by (try simp only [lm]); rfl) ?_; (with_reducible refine (s_Min.calls _ _ l0 t488 _ ?side1 ?side2 A2.out).mono ?_); (case side1 => repeat (exact HR0.out)); (case side2 => exact HC0.out); rintro e w' ⟨rfl, ⟨nd, rfl⟩⟩; refine ⟨_, rfl, ?_⟩) | ((with_reducible refine gate_callee (f := 31) rfl ?_); refine goesL_ (some 11) rfl rfl Try.func31 (by kernel_rfl) rfl #[.slice A0 l0.length c0] rfl (by (try simp only [lm]); rfl) ?_; (with_reducible refine (s_Max.calls _ _ l0 t489 _ ?side1 ?side2 A3.out).mono ?_); (case side1 => repeat (exact HR0.out)); (case side2 => exact HC0.out); rintro e w' ⟨rfl, ⟨nd, rfl⟩⟩; refine ⟨_, rfl, ?_⟩) | ((with_reducible refine gate_callee (f := 30) rfl ?_); refine goesL_ (some 13) rfl rfl Try.func30 (by kernel_rfl) rfl #[.slice A0 l0.length c0] rfl (by (try simp only [lm]); rfl) ?_; (with_reducible refine (s_Min.calls _ _ l0 t490 _ ?side1 ?side2 A4.out).mono ?_); (case side1 => repeat (exact HR0.out)); (case side2 => exact HC0.out); rintro e w' ⟨rfl, ⟨nd, rfl⟩⟩; refine ⟨_, rfl, ?_⟩) | ((with_reducible refine gate_callee (f := 104) rfl ?_); refine goesL_ (some 15) rfl rfl Try.func104 (by kernel_rfl) rfl #[.int .i64 (wrap64 (t489 - t490))] rfl (by (try simp only [lm]); rfl) ?_; (with_reducible refine (q_width.calls (wrap64 (t489 - t490)) t491 _ A5.out).mono ?_); rintro e w' ⟨rfl, ⟨nd, rfl⟩⟩; refine ⟨_, rfl, ?_⟩) | ((with_reducible refine gate_dst (N := 18) rfl ?_); refine Kd.R_make (Kd.int .i64) _ 3 rfl (N := 18) rfl 22 _ _ rfl (l0.length : Int) rfl rfl Try.underlying22 (.int .i64 0) 8 info3 rfl (by decide) (by omega) 0 (ok := fun _ => True) (okp := fun _ => True) rfl (fun _ hk => hk) trivial (of_decide_eq_true (by (with_reducible assumption))) (Nat.le_trans (Nat.mul_le_mul_right _ (of_decide_eq_true (by (with_reducible assumption)) : (l0.length : Int).toNat ≤ 35184372088832)) (by omega)) (Below.refl _ _) (Nat.le_refl _) ?_; intro v493 w8 ho9 hb hg_ hnew_; clear hg_ hnew_; (rw [← Ny492.out] at ho9); have n0_ := Ak (Kd.R_lower ho9 (below_size (by repeat ((with_reducible first | exact HB.out | apply pw_below_drewN))))); have n1_ := Ak (below_step (by repeat ((with_reducible first | exact HB.out | apply pw_below_drewN))) hb); clear HB; have HO494 := n0_; have HB := n1_; clear n0_ n1_ hb ho9))
   go_loopg [21] k (fun kq v21 w' => ∃ (x5_1 : List Int) (x21_1 : Int), v21 = .int .i64 x21_1 ∧ Aside0 (q_frame.l0 kq t488 t491 x5_1 l0 (l0.length : Int) x21_1 = some r) ∧ Aside0 (kq ≤ k) ∧ Aside0 (Kd.R (Kd.int .i64) 3 w' w.heap.size (fun _ => True) v493 x5_1) ∧ Aside0 (Below w.heap.size w w'))
   case atStart => exact ⟨(y492), (0), (by rfl), H', ⟨Nat.le_refl _⟩, ⟨by exact HO494.out⟩, ⟨by exact HB.out⟩⟩
   case round =>
    clear H'
    try clear c6b0
    try clear c6b1
    try clear c7b0
    try clear c7b1
    obtain ⟨x5_1, x21_1, rfl, HA, HK1, HO_5, HB⟩ := hrel
    cases gk with
    | zero => exact absurd HA.out (by simp [q_frame.l0])
    | succ k1 =>
     have H := HA.out
     clear HA
     simp only [q_frame.l0] at H
     by_cases c10 : x21_1 < (l0.length : Int)
     ·rw [if_pos c10] at H
      have c10b0 : decide (x21_1 < (l0.length : Int)) = true := decide_eq_true c10
      clear c10
      by_cases c11 : 0 ≤ x21_1
      ·rw [if_pos c11] at H
       have c11b0 : decide (0 ≤ x21_1) = true := decide_eq_true c11
       clear c11
       by_cases c12 : x21_1 < (l0.length : Int)
       ·rw [if_pos c12] at H
        have c12b0 : decide (x21_1 < (l0.length : Int)) = true := decide_eq_true c12
        clear c12
        by_cases c13 : x21_1 < (x5_1.length : Int)
        ·rw [if_pos c13] at H
         have c13b0 : decide (x21_1 < (x5_1.length : Int)) = true := decide_eq_true c13
         clear c13
         obtain ⟨y496, hy496⟩ : ∃ y_ : List Int, y_ = (x5_1.set (x21_1 : Int).toNat (wrap64 ((rd l0 x21_1) - t488))) := ⟨_, rfl⟩
         replace H : (q_frame.l0 k1 t488 t491 y496 l0 (l0.length : Int) (wrap64 (x21_1 + 1))) = some r := by (rw [hy496]; with_reducible exact H)
         have Ny496 := Ak hy496
         clear hy496
         have H' := Ak H
         clear H
         have p495 : 0 ≤ (x21_1 : Int) := of_decide_eq_true (by (with_reducible assumption))
         have q495 : x21_1 < (l0.length : Int) := of_decide_eq_true (by (with_reducible assumption))
         obtain ⟨ad495, e495, hx495_0⟩ := Kd.at_int HR0.out x21_1 p495 q495
         cases e495
         replace hx495_0 := (HB.out.cell (World.block_lt_of_cell? w _ hx495_0)).trans hx495_0
         replace p495 := eq_true p495
         replace q495 := eq_true q495
         have p14 : 0 ≤ (x21_1 : Int) := of_decide_eq_true (by (with_reducible assumption))
         have q14 : (x21_1 : Int) < ((x5_1.length : Int) : Int) := of_decide_eq_true (by (with_reducible assumption))
         obtain ⟨go14, co14, eo14, gb14, gl14, cl14, HG14⟩ := Kd.R_form HO_5.out (by omega)
         (cases eo14)
         have GB14 := Ak gb14
         have GG14 := Ak HG14
         clear gb14 gl14 HG14
         obtain ⟨hx14_0, hf14_0⟩ := Kd.R_celln 0 HO_5.out (x21_1 : Int) p14 q14
         replace p14 := eq_true p14
         replace q14 := eq_true q14
         have HP15 := Kd.R_putg HO_5.out (x21_1 : Int) (wrap64 ((rd l0 x21_1) - t488))
         go_wp2_with (first | ((with_reducible refine gate_store (t := 3) (p := 31) rfl ?_); refine store_event (t := 3) (p := 31) (v := ?vo_w16) (w1 := (wr.setCell ⟨go14, (x21_1 : Int).toNat, none⟩ (.int .i64 (wrap64 ((rd l0 x21_1) - t488))))) ?hg ?ho ?hn ?hr ?_; (case ho => rfl); (case hg => rfl); (case hn => rfl); (case hr => (go_simp; done)); intro w16 hw; have hg : wr.grownBy w16 (some go14) := (by rw [hw]; exact HP15.2); have hp_ : Kd.R (Kd.int .i64) 3 w16 w.heap.size (fun _ => True) (.slice (some ⟨go14, 0, none⟩) x5_1.length co14) y496 := (by rw [hw, Ny496.out]; exact HP15.1); clear HP15; have n0_ := Ak (hp_); have n1_ := Ak ((by rw [hw]; exact below_set (HB.out) GB14.out : Below w.heap.size w w16)); clear HO_5 HB; have HO_5 := n0_; have HB := n1_; clear n0_ n1_ hg hw hp_))
         go_roundg k1
         case measure => have := HK1.out; omega
         case rel => exact ⟨(y496), (wrap64 (x21_1 + 1)), (by rfl), H', ⟨by have := HK1.out; omega⟩, ⟨by exact HO_5.out⟩, ⟨by exact HB.out⟩⟩
        ·rw [if_neg c13] at H
         exact absurd H (by simp)
       ·rw [if_neg c12] at H
        exact absurd H (by simp)
      ·rw [if_neg c11] at H
       exact absurd H (by simp)
     ·rw [if_neg c10] at H
      have c10b0 : decide (x21_1 < (l0.length : Int)) = false := decide_eq_false c10
      clear c10
      replace H := Option.bind_eq_some_iff.mp H
      obtain ⟨t497, A170, H⟩ := H
      replace H : (if t497.length < 140737488355328 then ((some (t497 ++ [(t491) % 256] : List Int)).bind fun y500 => ((q_packed.f k1 x5_1 t491).bind fun t503 => (if y500.length + t503.length < 140737488355328 then (some (y500 ++ t503)) else (none)))) else (none)) = some r := H
      have A17 := Ak A170
      clear A170
      by_cases c18 : t497.length < 140737488355328
      ·rw [if_pos c18] at H
       have LMc18 := Ak c18
       clear c18
       obtain ⟨y500, hy500⟩ : ∃ y_ : List Int, y_ = (t497 ++ [(t491) % 256]) := ⟨_, rfl⟩
       replace H : ((q_packed.f k1 x5_1 t491).bind fun t503 => (if y500.length + t503.length < 140737488355328 then (some (y500 ++ t503)) else (none))) = some r := by (have H2_ := (Option.bind_some _ _).symm.trans H; rw [hy500]; with_reducible exact H2_)
       have Ny500 := Ak hy500
       clear hy500
       replace H := Option.bind_eq_some_iff.mp H
       obtain ⟨t503, A190, H⟩ := H
       replace H : (if y500.length + t503.length < 140737488355328 then (some (y500 ++ t503)) else (none)) = some r := H
       have A19 := Ak A190
       clear A190
       by_cases c20 : y500.length + t503.length < 140737488355328
       ·rw [if_pos c20] at H
        have LMc20 := Ak c20
        clear c20
        obtain ⟨y506, hy506⟩ : ∃ y_ : List Int, y_ = (y500 ++ t503) := ⟨_, rfl⟩
        replace H : (some y506) = some r := by (rw [hy506]; with_reducible exact H)
        have Ny506 := Ak hy506
        clear hy506
        obtain rfl := Option.some.inj H
        go_wp2_with (first | ((with_reducible refine gate_callee (f := 81) rfl ?_); refine goesL_ (some 34) rfl rfl Try.func81 (by kernel_rfl) rfl #[.int .i64 t488] rfl (by (try simp only [lm]); rfl) ?_; (with_reducible refine (q_number.calls k1 t488 t497 _ A17.out).mono ?_); rintro e w21 ⟨v498, rfl, ho0, hb⟩; refine ⟨_, rfl, ?_⟩; have n0_ := Ak (Kd.R_below (by exact HO_5.out) hb); have n1_ := Ak (Kd.R_lower ho0 (below_size (by exact HB.out))); have n2_ := Ak (below_step (by exact HB.out) hb); clear HO_5 HB; have HO_5 := n0_; have HO499 := n1_; have HB := n2_; clear n0_ n1_ n2_; (try clear hb); (try clear ho0)) | ((with_reducible refine gate_builtin (b := .append) (xs := #[.tmp 34, .tmp 37]) rfl ?_); at_builtin; refine Kd.R_append (Kd.int .u8) (w0 := w) w.heap.size rfl (.tmp 34) (.tmp 37) 27 5 (.int .u8 0) 1 rfl Try.underlying27 info5 rfl (by decide) (by omega) v498 t497 ((t491) % 256) [.int .u8 ((t491) % 256)] (fun _ => True) (fun _ => False) rfl rfl ?aP (fun _ hk => hk.elim) ?aF ?aO ?aB ?aS ?aL ?_; (case aP => exact rfl); (case aB => exact (by exact HB.out)); (case aF => exact (fun _ _ => trivial)); (case aO => exact (by exact HO499.out)); (case aS => exact (below_size (by exact HB.out))); (case aL => have := LMc18.out; omega); intro v501 w22 ho hb hg hat; rw [← Ny500.out] at ho; have n0_ := Ak (Kd.R_over' (by exact HO_5.out) (Kd.R_typed (by exact HO499.out)) (by decide) hg); have n1_ := Ak (hb); have n2_ := Ak (ho); clear HO_5 HB HO499; have HO_5 := n0_; have HB := n1_; have HO502 := n2_; clear n0_ n1_ n2_ ho hb hg hat; obtain ⟨Ao23, co23, eo23⟩ := Kd.R_slice HO_5.out; subst eo23) | ((with_reducible refine gate_callee (f := 103) rfl ?_); refine goesL_ (some 41) rfl rfl Try.func103 (by kernel_rfl) rfl #[.slice Ao23 x5_1.length co23, .int .i64 t491] rfl (by (try simp only [lm]); rfl) ?_; (with_reducible refine (q_packed.calls k1 _ _ x5_1 t491 t503 _ ?side1 ?side2 A19.out).mono ?_); (case side1 => repeat (exact (Kd.R_reads' HO_5.out).2.2)); (case side2 => exact (Kd.R_reads' HO_5.out).2.1); rintro e w24 ⟨v504, rfl, ho0, hb⟩; refine ⟨_, rfl, ?_⟩; have n0_ := Ak (Kd.R_below (by exact HO_5.out) hb); have n1_ := Ak (Kd.R_elder' (by exact HO502.out) (Kd.R_base ho0) hb); have n2_ := Ak (Kd.R_lower (Kd.R_new' ho0 (Kd.R_lt (by exact HO502.out))) (below_size (by exact HB.out))); have n3_ := Ak (below_step (by exact HB.out) hb); clear HO_5 HO502 HB; have HO_5 := n0_; have HO502 := n1_; have HO505 := n2_; have HB := n3_; clear n0_ n1_ n2_ n3_; (try clear hb); (try clear ho0); obtain ⟨Ao26, co26, eo26⟩ := Kd.R_slice HO505.out; subst eo26) | ((with_reducible refine gate_builtin (b := .append) (xs := #[.tmp 38, .tmp 41]) rfl ?_); at_builtin; refine Kd.R_append_rows (Kd.int .u8) (w0 := w) w.heap.size rfl (.tmp 38) (.tmp 41) 27 5 (.int .u8 0) 1 rfl Try.underlying27 info5 rfl (by decide) (by omega) v501 y500 t503 _ _ _ (fun k_ => some k_ ≠ (.slice Ao26 t503.length co26 : Value).ownBlock) (fun _ => False) rfl rfl ?aO ?aR (fun _ _ h => h) (fun _ h => h.elim) ?aF ?aB ?aS ?aL ?_; (case aR => repeat (exact (Kd.R_reads' HO505.out).2.2)); (case aB => exact (by exact HB.out)); (case aF => exact (fun k_ hk => Kd.fresh' (Kd.R_lt (by exact HO505.out)) k_ hk)); (case aO => exact (by exact Kd.R_mono HO502.out (fun _ hk => hk.2))); (case aS => exact (below_size (by exact HB.out))); (case aL => have := LMc20.out; omega); intro v507 w25 ho hb hg hat; rw [← Ny506.out] at ho; have n0_ := Ak (Kd.R_over' (by exact HO_5.out) (Kd.R_typed (by exact HO502.out)) (by decide) hg); have n1_ := Ak (Kd.R_after (ok := (fun _ => True)) (by exact HO505.out) hg hat); have n2_ := Ak (hb); have n3_ := Ak (ho); clear HO_5 HO505 HB HO502; have HO_5 := n0_; have HO505 := n1_; have HB := n2_; have HO508 := n3_; clear n0_ n1_ n2_ n3_ ho hb hg hat))
        go_ret
        exact ⟨_, by rfl, by exact Kd.R_mono HO508.out (fun _ hk => trivial), by exact HB.out⟩
       ·rw [if_neg c20] at H
        exact absurd H (by simp)
      ·rw [if_neg c18] at H
       exact absurd H (by simp)
  ·rw [if_neg c7] at H
   exact absurd H (by simp)
 ·rw [if_neg c6] at H
  exact absurd H (by simp)
def q_deltas.l0 : Nat → List Int → List Int → Int → Option (List Int)
 | 0, _, _, _ => none
 | k + 1, x0, x3, x4 => if x4 < (x0.length : Int) then (if 0 ≤ x4 then (if 0 ≤ (wrap64 (x4 - 1)) then (if (wrap64 (x4 - 1)) < (x0.length : Int) then ((q_number.f k (wrap64 ((rd x0 x4) - (rd x0 (wrap64 (x4 - 1)))))).bind fun t515 => (if x3.length + t515.length < 140737488355328 then (q_deltas.l0 k x0 (x3 ++ t515) (wrap64 (x4 + 1))) else (none))) else (none)) else (none)) else (none)) else (some x3)
def q_deltas.f (k : Nat) (l0 : List Int) : Option (List Int) := if 0 < (l0.length : Int) then ((q_number.f k (rd l0 0)).bind fun t510 => (q_deltas.l0 k l0 t510 1)) else (none)
theorem q_deltas.mono_l : ∀ k, (∀ y0 y1 y2, LeO (q_deltas.l0 k y0 y1 y2) (q_deltas.l0 (k + 1) y0 y1 y2))
 | 0 => fun _ _ _ r h => by simp [q_deltas.l0] at h
 | k + 1 => by
  have ih0 := q_deltas.mono_l k
  ·intro y0 y1 y2
   unfold q_deltas.l0
   repeat' first
   | (with_reducible exact ih0 _ _ _)
   | (with_reducible exact q_number.mono _ _)
   | (with_reducible exact LeO.refl _)
   | (with_reducible refine LeO.ite ?_ ?_)
   | (with_reducible refine LeO.bind ?_ (fun _ => ?_))
theorem q_deltas.mono : ∀ a0 k, LeO (q_deltas.f k a0) (q_deltas.f (k + 1) a0) := by
 intro a0 k
 have ih0 := q_deltas.mono_l k
 unfold q_deltas.f
 repeat' first
  | (with_reducible exact ih0 _ _ _)
  | (with_reducible exact q_number.mono _ _)
  | (with_reducible exact LeO.refl _)
  | (with_reducible refine LeO.ite ?_ ?_)
  | (with_reducible refine LeO.bind ?_ (fun _ => ?_))
def q_deltas.T5 : Bool × List (List Nat × List Nat) := (true, [([], []), ([], []), ([], []), ([1, 2], [1, 2]), ([3], [3]), ([], []), ([], []), ([6], [6]), ([5, 7], [5, 7]), ([8], [8]), ([4, 9], [4, 9]), ([10], [10]), ([0, 11, 11], [0, 11]), ([12, 12, 0, 1, 2, 3, 4, 5, 6, 7, 8, 9, 10, 11, 12], [0, 12])])
def q_deltas.B5 : List Nat := [0, 0, 0, 6, 14, 0, 0, 64, 224, 480, 1022, 2046, 4095, 8191]
theorem q_deltas.tab5 : rtab .any (opsOf Try.f85 5) = q_deltas.T5 := by kernel_rfl
theorem q_deltas.bits5 : waitsOk q_deltas.T5.2 q_deltas.B5 = true := by kernel_rfl
set_option maxHeartbeats 8000000 in
set_option maxRecDepth 100000 in
theorem q_deltas.calls (k : Nat) (A0 : Option Addr) (c0 : Nat) (l0 : List Int) (r : List Int) (w : World) (hr0 : Kd.C (Kd.int .i64) w A0 l0.length l0) (hc0 : l0.length ≤ c0) (h : q_deltas.f k l0 = some r) :
 Calls Try.prog 85 #[.slice A0 l0.length c0] w fun e w' => ∃ v0_ : Value, e = .returned (v0_) ∧ Kd.R (Kd.int .u8) 5 w' w.heap.size (fun _ => True) v0_ r ∧ Below w.heap.size w w' := by
 have HR0 := Ak hr0
 have HC0 := Ak hc0
 clear hr0 hc0
 have HB := Ak (Below.refl w.heap.size w)
 have H : (if 0 < (l0.length : Int) then ((q_number.f k (rd l0 0)).bind fun t510 => (q_deltas.l0 k l0 t510 1)) else (none)) = some r := h
 clear h
 by_cases c2 : 0 < (l0.length : Int)
 ·rw [if_pos c2] at H
  have c2b0 : decide (0 < (l0.length : Int)) = true := decide_eq_true c2
  have c2b1 : decide (0 < l0.length) = true := decide_eq_true (by omega)
  clear c2
  replace H := Option.bind_eq_some_iff.mp H
  obtain ⟨t510, A30, H⟩ := H
  replace H : (q_deltas.l0 k l0 t510 1) = some r := H
  have A3 := Ak A30
  clear A30
  have H' := Ak H
  clear H
  have p509 : 0 ≤ (0 : Int) := (by omega)
  have q509 : 0 < (l0.length : Int) := of_decide_eq_true (by (with_reducible assumption))
  obtain ⟨ad509, e509, hx509_0⟩ := Kd.at_int HR0.out 0 p509 q509
  cases e509
  have qi509 : (0 < l0.length) = True := eq_true (by omega)
  (try rw [show ((0 : Int)).toNat = 0 from rfl] at hx509_0)
  (try rw [Addr.add_zero'] at hx509_0)
  replace p509 := eq_true p509
  replace q509 := eq_true q509
  go_enter Try.func85, Try.ntmps85
  go_wp2_with (first | ((with_reducible refine gate_callee (f := 81) rfl ?_); refine goesL_ (some 8) rfl rfl Try.func81 (by kernel_rfl) rfl #[.int .i64 (rd l0 0)] rfl (by (try simp only [lm]); rfl) ?_; (with_reducible refine (q_number.calls k (rd l0 0) t510 _ A3.out).mono ?_); rintro e w4 ⟨v511, rfl, ho0, hb⟩; refine ⟨_, rfl, ?_⟩; have n0_ := Ak (Kd.R_lower ho0 (below_size (by exact HB.out))); have n1_ := Ak (below_step (by exact HB.out) hb); clear HB; have HO512 := n0_; have HB := n1_; clear n0_ n1_; (try clear hb); (try clear ho0)))
  go_loopg [3, 4] k (fun kq v3 v4 w' => ∃ (x3_1 : List Int) (x4_1 : Int), v4 = .int .i64 x4_1 ∧ Aside0 (q_deltas.l0 kq l0 x3_1 x4_1 = some r) ∧ Aside0 (kq ≤ k) ∧ Aside0 (Kd.R (Kd.int .u8) 5 w' w.heap.size (fun _ => True) v3 x3_1) ∧ Aside0 (Below w.heap.size w w'))
  case atStart => exact ⟨(t510), (1), (by rfl), H', ⟨Nat.le_refl _⟩, ⟨by exact HO512.out⟩, ⟨by exact HB.out⟩⟩
  case round =>
   clear H'
   try clear c2b0
   try clear c2b1
   try clear hx509_0
   try clear p509
   try clear q509
   obtain ⟨x3_1, x4_1, rfl, HA, HK1, HO_3, HB⟩ := hrel
   cases gk with
   | zero => exact absurd HA.out (by simp [q_deltas.l0])
   | succ k1 =>
    have H := HA.out
    clear HA
    simp only [q_deltas.l0] at H
    by_cases c5 : x4_1 < (l0.length : Int)
    ·rw [if_pos c5] at H
     have c5b0 : decide (x4_1 < (l0.length : Int)) = true := decide_eq_true c5
     clear c5
     by_cases c6 : 0 ≤ x4_1
     ·rw [if_pos c6] at H
      have c6b0 : decide (0 ≤ x4_1) = true := decide_eq_true c6
      clear c6
      obtain ⟨ji7, hji7⟩ : ∃ j_ : Int, (wrap64 (x4_1 - 1)) = j_ := ⟨_, rfl⟩
      replace H : (if 0 ≤ (ji7) then (if (ji7) < (l0.length : Int) then ((q_number.f k1 (wrap64 ((rd l0 x4_1) - (rd l0 (ji7))))).bind fun t515 => (if x3_1.length + t515.length < 140737488355328 then (q_deltas.l0 k1 l0 (x3_1 ++ t515) (wrap64 (x4_1 + 1))) else (none))) else (none)) else (none)) = some r := by (rw [hji7] at H; exact H)
      have hji7w : (IntKind.i64.wrap (x4_1 - 1)) = ji7 := (i64_w _).trans hji7
      by_cases c8 : 0 ≤ (ji7)
      ·rw [if_pos c8] at H
       have c8b0 : decide (0 ≤ (ji7)) = true := decide_eq_true c8
       clear c8
       by_cases c9 : (ji7) < (l0.length : Int)
       ·rw [if_pos c9] at H
        have c9b0 : decide ((ji7) < (l0.length : Int)) = true := decide_eq_true c9
        clear c9
        replace H := Option.bind_eq_some_iff.mp H
        obtain ⟨t515, A100, H⟩ := H
        replace H : (if x3_1.length + t515.length < 140737488355328 then (q_deltas.l0 k1 l0 (x3_1 ++ t515) (wrap64 (x4_1 + 1))) else (none)) = some r := H
        have A10 := Ak A100
        clear A100
        by_cases c11 : x3_1.length + t515.length < 140737488355328
        ·rw [if_pos c11] at H
         have LMc11 := Ak c11
         clear c11
         obtain ⟨y518, hy518⟩ : ∃ y_ : List Int, y_ = (x3_1 ++ t515) := ⟨_, rfl⟩
         replace H : (q_deltas.l0 k1 l0 y518 (wrap64 (x4_1 + 1))) = some r := by (rw [hy518]; with_reducible exact H)
         have Ny518 := Ak hy518
         clear hy518
         have H' := Ak H
         clear H
         try go_wp2
         have n0_ := Ak (Kd.R_drew HO_3.out)
         have n1_ := Ak (below_drew1 HB.out)
         clear HO_3 HB
         have HO_3 := n0_
         have HB := n1_
         clear n0_ n1_
         have p513 : 0 ≤ (x4_1 : Int) := of_decide_eq_true (by (with_reducible assumption))
         have q513 : x4_1 < (l0.length : Int) := of_decide_eq_true (by (with_reducible assumption))
         obtain ⟨ad513, e513, hx513_0⟩ := Kd.at_int HR0.out x4_1 p513 q513
         have hw513_0 := hx513_0
         obtain rfl : ad509 = ad513 := (by injection e513)
         replace hx513_0 := (HB.out.cell (World.block_lt_of_cell? w _ hx513_0)).trans hx513_0
         replace p513 := eq_true p513
         replace q513 := eq_true q513
         have p514 : 0 ≤ ((ji7) : Int) := of_decide_eq_true (by (with_reducible assumption))
         have q514 : (ji7) < (l0.length : Int) := of_decide_eq_true (by (with_reducible assumption))
         obtain ⟨ad514, e514, hx514_0⟩ := Kd.at_int HR0.out (ji7) p514 q514
         have hw514_0 := hx514_0
         obtain rfl : ad509 = ad514 := (by injection e514)
         replace hx514_0 := (HB.out.cell (World.block_lt_of_cell? w _ hx514_0)).trans hx514_0
         replace p514 := eq_true p514
         replace q514 := eq_true q514
         refine start_ (n := 14) (S := fun w' => w'.cell? (ad509.add (x4_1).toNat) = some (.int .i64 (rd l0 x4_1)) ∧ w'.cell? (ad509.add ((ji7)).toNat) = some (.int .i64 (rd l0 (ji7)))) (ds := []) #[false, false, false, false, false, false, false, false, false, false, false, false, false, false] (by kernel_rfl) rfl rfl ⟨((HB.out.cell (World.block_lt_of_cell? w _ hw513_0)).trans hw513_0), ((HB.out.cell (World.block_lt_of_cell? w _ hw514_0)).trans hw514_0)⟩ (fun hHeld => ?_); refine with_tabW q_deltas.tab5 q_deltas.bits5 (fun HT_ HW_ => ?_)
         generalize wr.drew = w12 at HO_3 HB hx513_0 hx514_0 hHeld ⊢
         refine pure_ (i := 0) (N := some 15) (v := ?_) (a' := ?_) #[true, false, false, false, false, false, false, false, false, false, false, false, false, false] rfl rfl (any_of HT_.out (by kernel_rfl)) (fun _ _ _ h => h) (Or.inl ⟨by rfl, ?_⟩) ?_ ?_
         rotate_left
         ·intro w'
          go_simp
          with_reducible rfl
         rotate_left
         ·simp only [Act.put, List.setIfInBounds_toArray, List.set_cons_zero, List.set_cons_succ, i64_w, i32_w]
          rfl
         refine pure_ (i := 1) (N := some 16) (v := ?_) (a' := ?_) #[true, true, false, false, false, false, false, false, false, false, false, false, false, false] rfl rfl (any_of HT_.out (by kernel_rfl)) (fun _ _ _ h => h) (Or.inl ⟨by rfl, ?_⟩) ?_ ?_
         rotate_left
         ·intro w'
          go_simp
          with_reducible rfl
         rotate_left
         ·simp only [Act.put, List.setIfInBounds_toArray, List.set_cons_zero, List.set_cons_succ, i64_w, i32_w]
          rfl
         refine pure_ (i := 2) (N := some 17) (v := ?_) (a' := ?_) #[true, true, true, false, false, false, false, false, false, false, false, false, false, false] rfl rfl (any_of HT_.out (by kernel_rfl)) (fun _ _ _ h => h) (Or.inl ⟨by rfl, ?_⟩) ?_ ?_
         rotate_left
         ·intro w'
          go_simp
          with_reducible rfl
         rotate_left
         ·simp only [Act.put, List.setIfInBounds_toArray, List.set_cons_zero, List.set_cons_succ, i64_w, i32_w]
          rfl
         refine pure_ (i := 3) (N := some 18) (v := ?_) (a' := ?_) #[true, true, true, true, false, false, false, false, false, false, false, false, false, false] rfl rfl (any_of HT_.out (by kernel_rfl)) (fun _ _ _ h => h) (Or.inl ⟨by rfl, ?_⟩) ?_ ?_
         rotate_left
         ·intro w'
          go_simp
          with_reducible rfl
         rotate_left
         ·simp only [Act.put, List.setIfInBounds_toArray, List.set_cons_zero, List.set_cons_succ, i64_w, i32_w]
          rfl
         refine pure_ (i := 5) (N := some 20) (v := ?_) (a' := ?_) #[true, true, true, true, false, true, false, false, false, false, false, false, false, false] rfl rfl (any_of HT_.out (by kernel_rfl)) (fun _ _ _ h => h) (Or.inl ⟨by rfl, ?_⟩) ?_ ?_
         rotate_left
         ·intro w'
          go_simp
          with_reducible rfl
         rotate_left
         ·simp only [Act.put, List.setIfInBounds_toArray, List.set_cons_zero, List.set_cons_succ, i64_w, i32_w]
          rfl
         refine pure_ (i := 6) (N := some 21) (v := ?_) (a' := ?_) #[true, true, true, true, false, true, true, false, false, false, false, false, false, false] rfl rfl (any_of HT_.out (by kernel_rfl)) (fun _ _ _ h => h) (Or.inl ⟨by rfl, ?_⟩) ?_ ?_
         rotate_left
         ·intro w'
          go_simp
          with_reducible rfl
         rotate_left
         ·simp only [Act.put, List.setIfInBounds_toArray, List.set_cons_zero, List.set_cons_succ, i64_w, i32_w]
          rfl
         refine pure_ (i := 7) (N := some 22) (v := ?_) (a' := ?_) #[true, true, true, true, false, true, true, true, false, false, false, false, false, false] rfl rfl (any_of HT_.out (by kernel_rfl)) (fun _ _ _ h => h) (Or.inl ⟨by rfl, ?_⟩) ?_ ?_
         rotate_left
         ·intro w'
          go_simp
          with_reducible rfl
         rotate_left
         ·simp only [Act.put, List.setIfInBounds_toArray, List.set_cons_zero, List.set_cons_succ, i64_w, i32_w]
          rfl
         refine pure_ (i := 8) (N := some 23) (v := ?_) (a' := ?_) #[true, true, true, true, false, true, true, true, true, false, false, false, false, false] rfl rfl (any_of HT_.out (by kernel_rfl)) (fun _ _ _ h => h) (Or.inl ⟨by rfl, ?_⟩) ?_ ?_
         rotate_left
         ·intro w'
          go_simp
          with_reducible rfl
         rotate_left
         ·simp only [Act.put, List.setIfInBounds_toArray, List.set_cons_zero, List.set_cons_succ, i64_w, i32_w]
          rfl
         refine take_ (i := 4) (N := some 19) (v := ?_) (a' := ?_) #[true, true, true, true, true, true, true, true, true, false, false, false, false, false] rfl rfl (take_ofW HT_.out HW_.out (by kernel_rfl)) (fun _ _ _ h => h) (Or.inl ⟨by rfl, ?_⟩) hHeld ?_ ?_
         rotate_left
         ·rintro w' ⟨s0, s1⟩
          go_simp
          with_reducible rfl
         rotate_left
         ·simp only [Act.put, List.setIfInBounds_toArray, List.set_cons_zero, List.set_cons_succ, i64_w, i32_w]
          rfl
         refine take_ (i := 9) (N := some 24) (v := ?_) (a' := ?_) #[true, true, true, true, true, true, true, true, true, true, false, false, false, false] rfl rfl (take_ofW HT_.out HW_.out (by kernel_rfl)) (fun _ _ _ h => h) (Or.inl ⟨by rfl, ?_⟩) hHeld ?_ ?_
         rotate_left
         ·rintro w' ⟨s0, s1⟩
          go_simp
          with_reducible rfl
         rotate_left
         ·simp only [Act.put, List.setIfInBounds_toArray, List.set_cons_zero, List.set_cons_succ, i64_w, i32_w]
          rfl
         refine pure_ (i := 10) (N := some 25) (v := ?_) (a' := ?_) #[true, true, true, true, true, true, true, true, true, true, true, false, false, false] rfl rfl (any_of HT_.out (by kernel_rfl)) (fun _ _ _ h => h) (Or.inl ⟨by rfl, ?_⟩) ?_ ?_
         rotate_left
         ·intro w'
          go_simp
          with_reducible rfl
         rotate_left
         ·simp only [Act.put, List.setIfInBounds_toArray, List.set_cons_zero, List.set_cons_succ, i64_w, i32_w]
          rfl
         refine one_ (i := 11) (N := some 26) #[true, true, true, true, true, true, true, true, true, true, true, true, false, false] rfl rfl (one_of HT_.out (by kernel_rfl)) (by decide) (fun K hK => ?_)
         refine goes_ Try.func81 (by kernel_rfl) rfl #[.int .i64 (wrap64 ((rd l0 x4_1) - (rd l0 (ji7))))] (by rfl) rfl rfl (by (try simp only [lm]); rfl) ?_
         with_reducible refine (q_number.calls k1 (wrap64 ((rd l0 x4_1) - (rd l0 (ji7)))) t515 _ A10.out).mono ?_
         rintro e w13 ⟨v516, rfl, ho0, hb⟩
         refine ⟨_, rfl, ?_⟩
         have n0_ := Ak (Kd.R_elder' (by exact HO_3.out) (Kd.R_base ho0) hb)
         have n1_ := Ak (Kd.R_lower (Kd.R_new' ho0 (Kd.R_lt (by exact HO_3.out))) (below_size (by exact HB.out)))
         have n2_ := Ak (below_step (by exact HB.out) hb)
         clear HO_3 HB
         have HO_3 := n0_
         have HO517 := n1_
         have HB := n2_
         clear n0_ n1_ n2_
         (try clear hb)
         (try clear hb2)
         (try clear hk)
         (try clear hi)
         (try clear ho0)
         obtain ⟨Ao15, co15, eo15⟩ := Kd.R_slice HO517.out
         (subst eo15)
         refine hK.out _ _ ⟨((HB.out.cell (World.block_lt_of_cell? w _ hw513_0)).trans hw513_0), ((HB.out.cell (World.block_lt_of_cell? w _ hw514_0)).trans hw514_0)⟩ (fun hHeld => ?_)
         clear hK K
         refine norm_ (a' := ?_) ?_ ?_
         rotate_left
         ·show Act.put _ (some 26) _ = _
          simp only [Act.put, List.setIfInBounds_toArray, List.set_cons_zero, List.set_cons_succ, i64_w, i32_w]
          rfl
         refine one_ (i := 12) (N := some 27) #[true, true, true, true, true, true, true, true, true, true, true, true, true, false] rfl rfl (one_of HT_.out (by kernel_rfl)) (by decide) (fun K hK => ?_)
         refine Kd.R_append_rows_step (Kd.int .u8) (w0 := w) w.heap.size (by rfl) (.tmp 15) (.tmp 26) 27 5 (.int .u8 0) 1 rfl Try.underlying27 info5 rfl (by decide) (by omega) u3 x3_1 t515 _ _ _ (fun k_ => some k_ ≠ (.slice Ao15 t515.length co15 : Value).ownBlock) (fun _ => False) rfl rfl ?aO ?aR (fun _ _ h => h) (fun _ h => h.elim) ?aF ?aB ?aS ?aL ?_
         (case aR => repeat (exact (Kd.R_reads' HO517.out).2.2))
         (case aB => exact (by exact HB.out))
         (case aF => exact (fun k_ hk => Kd.fresh' (Kd.R_lt (by exact HO517.out)) k_ hk))
         (case aO => exact (by exact Kd.R_mono HO_3.out (fun _ hk => hk.2)))
         (case aS => exact (below_size (by exact HB.out)))
         (case aL => have := LMc11.out; omega)
         intro v519 w14 ho hb hg hat
         rw [← Ny518.out] at ho
         have n0_ := Ak (Kd.R_after (ok := (fun _ => True)) (by exact HO517.out) hg hat)
         have n1_ := Ak (hb)
         have n2_ := Ak (ho)
         clear HO517 HB HO_3
         have HO517 := n0_
         have HB := n1_
         have HO520 := n2_
         clear n0_ n1_ n2_ ho hb hg hat
         refine hK.out _ _ ⟨((HB.out.cell (World.block_lt_of_cell? w _ hw513_0)).trans hw513_0), ((HB.out.cell (World.block_lt_of_cell? w _ hw514_0)).trans hw514_0)⟩ (fun hHeld => ?_)
         clear hK K
         refine norm_ (a' := ?_) ?_ ?_
         rotate_left
         ·show Act.put _ (some 27) _ = _
          simp only [Act.put, List.setIfInBounds_toArray, List.set_cons_zero, List.set_cons_succ, i64_w, i32_w]
          rfl
         refine pure_ (i := 13) (N := some 3) (v := ?_) (a' := ?_) #[true, true, true, true, true, true, true, true, true, true, true, true, true, true] rfl rfl (any_of HT_.out (by kernel_rfl)) (fun _ _ _ h => h) (Or.inl ⟨by rfl, ?_⟩) ?_ ?_
         rotate_left
         ·intro w'
          go_simp
          with_reducible rfl
         rotate_left
         ·simp only [Act.put, List.setIfInBounds_toArray, List.set_cons_zero, List.set_cons_succ, i64_w, i32_w]
          rfl
         refine done_ (done_of HT_.out (by kernel_rfl)) ?_
         try go_wp2
         go_roundg k1
         case measure => have := HK1.out; omega
         case rel => exact ⟨(y518), (wrap64 (x4_1 + 1)), (by rfl), H', ⟨by have := HK1.out; omega⟩, ⟨by exact Kd.R_mono HO520.out (fun _ hk => trivial)⟩, ⟨by exact HB.out⟩⟩
        ·rw [if_neg c11] at H
         exact absurd H (by simp)
       ·rw [if_neg c9] at H
        exact absurd H (by simp)
      ·rw [if_neg c8] at H
       exact absurd H (by simp)
     ·rw [if_neg c6] at H
      exact absurd H (by simp)
    ·rw [if_neg c5] at H
     have c5b0 : decide (x4_1 < (l0.length : Int)) = false := decide_eq_false c5
     clear c5
     obtain rfl := Option.some.inj H
     go_wp2
     go_ret
     exact ⟨_, by rfl, by exact HO_3.out, by exact HB.out⟩
 ·rw [if_neg c2] at H
  exact absurd H (by simp)
def q_bytesOf.l0 : Nat → List Int → List Int → Int → Int → Option (List Int)
 | 0, _, _, _, _ => none
 | k + 1, x5, x22, x23, x24 => if x24 < x23 then (if 0 ≤ x24 then (if x24 < (x22.length : Int) then ((q_number.f k (rd x22 x24)).bind fun t531 => (if x5.length + t531.length < 140737488355328 then (q_bytesOf.l0 k (x5 ++ t531) x22 x23 (wrap64 (x24 + 1))) else (none))) else (none)) else (none)) else (some x5)
def q_bytesOf.f (k : Nat) (a0 : Int) (l1 : List Int) : Option (List Int) := (some (([(a0) % 256] : List Int) : List Int)).bind fun y521 => ((q_count.f k (l1.length : Int)).bind fun t524 => (if y521.length + t524.length < 140737488355328 then ((some (y521 ++ t524 : List Int)).bind fun y527 => (if (l1.length : Int) = 0 then (some y527) else (if a0 = 1 then (q_bytesOf.l0 k y527 l1 (l1.length : Int) 0) else (if a0 = 2 then ((q_runs.f k l1).bind fun t537 => (if y527.length + t537.length < 140737488355328 then (some (y527 ++ t537)) else (none))) else (if a0 = 3 then ((q_dict.f k l1).bind fun t543 => (if y527.length + t543.length < 140737488355328 then (some (y527 ++ t543)) else (none))) else (if a0 = 4 then ((q_frame.f k l1).bind fun t549 => (if y527.length + t549.length < 140737488355328 then (some (y527 ++ t549)) else (none))) else ((q_deltas.f k l1).bind fun t555 => (if y527.length + t555.length < 140737488355328 then (some (y527 ++ t555)) else (none))))))))) else (none)))
theorem q_bytesOf.mono_l : ∀ k, (∀ y0 y1 y2 y3, LeO (q_bytesOf.l0 k y0 y1 y2 y3) (q_bytesOf.l0 (k + 1) y0 y1 y2 y3))
 | 0 => fun _ _ _ _ r h => by simp [q_bytesOf.l0] at h
 | k + 1 => by
  have ih0 := q_bytesOf.mono_l k
  ·intro y0 y1 y2 y3
   unfold q_bytesOf.l0
   repeat' first
   | (with_reducible exact ih0 _ _ _ _)
   | (with_reducible exact q_number.mono _ _)
   | (with_reducible exact LeO.refl _)
   | (with_reducible refine LeO.ite ?_ ?_)
   | (with_reducible refine LeO.bind ?_ (fun _ => ?_))
theorem q_bytesOf.mono : ∀ a0 a1 k, LeO (q_bytesOf.f k a0 a1) (q_bytesOf.f (k + 1) a0 a1) := by
 intro a0 a1 k
 have ih0 := q_bytesOf.mono_l k
 unfold q_bytesOf.f
 repeat' first
  | (with_reducible exact ih0 _ _ _ _)
  | (with_reducible exact q_count.mono _ _)
  | (with_reducible exact q_deltas.mono _ _)
  | (with_reducible exact q_dict.mono _ _)
  | (with_reducible exact q_frame.mono _ _)
  | (with_reducible exact q_runs.mono _ _)
  | (with_reducible exact LeO.refl _)
  | (with_reducible refine LeO.ite ?_ ?_)
  | (with_reducible refine LeO.bind ?_ (fun _ => ?_))
set_option maxHeartbeats 8000000 in
set_option maxRecDepth 100000 in
theorem q_bytesOf.calls (k : Nat) (a0 : Int) (A1 : Option Addr) (c1 : Nat) (l1 : List Int) (r : List Int) (w : World) (hr1 : Kd.C (Kd.int .i64) w A1 l1.length l1) (hc1 : l1.length ≤ c1) (h : q_bytesOf.f k a0 l1 = some r) :
 Calls Try.prog 63 #[.int .i64 a0, .slice A1 l1.length c1] w fun e w' => ∃ v0_ : Value, e = .returned (v0_) ∧ Kd.R (Kd.int .u8) 5 w' w.heap.size (fun _ => True) v0_ r ∧ Below w.heap.size w w' := by
 have HR1 := Ak hr1
 have HC1 := Ak hc1
 clear hr1 hc1
 have HB := Ak (Below.refl w.heap.size w)
 have H : ((some (([(a0) % 256] : List Int) : List Int)).bind fun y521 => ((q_count.f k (l1.length : Int)).bind fun t524 => (if y521.length + t524.length < 140737488355328 then ((some (y521 ++ t524 : List Int)).bind fun y527 => (if (l1.length : Int) = 0 then (some y527) else (if a0 = 1 then (q_bytesOf.l0 k y527 l1 (l1.length : Int) 0) else (if a0 = 2 then ((q_runs.f k l1).bind fun t537 => (if y527.length + t537.length < 140737488355328 then (some (y527 ++ t537)) else (none))) else (if a0 = 3 then ((q_dict.f k l1).bind fun t543 => (if y527.length + t543.length < 140737488355328 then (some (y527 ++ t543)) else (none))) else (if a0 = 4 then ((q_frame.f k l1).bind fun t549 => (if y527.length + t549.length < 140737488355328 then (some (y527 ++ t549)) else (none))) else ((q_deltas.f k l1).bind fun t555 => (if y527.length + t555.length < 140737488355328 then (some (y527 ++ t555)) else (none))))))))) else (none)))) = some r := h
 clear h
 obtain ⟨y521, hy521⟩ : ∃ y_ : List Int, y_ = (([(a0) % 256] : List Int)) := ⟨_, rfl⟩
 replace H : ((q_count.f k (l1.length : Int)).bind fun t524 => (if y521.length + t524.length < 140737488355328 then ((some (y521 ++ t524 : List Int)).bind fun y527 => (if (l1.length : Int) = 0 then (some y527) else (if a0 = 1 then (q_bytesOf.l0 k y527 l1 (l1.length : Int) 0) else (if a0 = 2 then ((q_runs.f k l1).bind fun t537 => (if y527.length + t537.length < 140737488355328 then (some (y527 ++ t537)) else (none))) else (if a0 = 3 then ((q_dict.f k l1).bind fun t543 => (if y527.length + t543.length < 140737488355328 then (some (y527 ++ t543)) else (none))) else (if a0 = 4 then ((q_frame.f k l1).bind fun t549 => (if y527.length + t549.length < 140737488355328 then (some (y527 ++ t549)) else (none))) else ((q_deltas.f k l1).bind fun t555 => (if y527.length + t555.length < 140737488355328 then (some (y527 ++ t555)) else (none))))))))) else (none))) = some r := by (have H2_ := (Option.bind_some _ _).symm.trans H; rw [hy521]; with_reducible exact H2_)
 have Ny521 := Ak hy521
 clear hy521
 replace H := Option.bind_eq_some_iff.mp H
 obtain ⟨t524, A30, H⟩ := H
 replace H : (if y521.length + t524.length < 140737488355328 then ((some (y521 ++ t524 : List Int)).bind fun y527 => (if (l1.length : Int) = 0 then (some y527) else (if a0 = 1 then (q_bytesOf.l0 k y527 l1 (l1.length : Int) 0) else (if a0 = 2 then ((q_runs.f k l1).bind fun t537 => (if y527.length + t537.length < 140737488355328 then (some (y527 ++ t537)) else (none))) else (if a0 = 3 then ((q_dict.f k l1).bind fun t543 => (if y527.length + t543.length < 140737488355328 then (some (y527 ++ t543)) else (none))) else (if a0 = 4 then ((q_frame.f k l1).bind fun t549 => (if y527.length + t549.length < 140737488355328 then (some (y527 ++ t549)) else (none))) else ((q_deltas.f k l1).bind fun t555 => (if y527.length + t555.length < 140737488355328 then (some (y527 ++ t555)) else (none))))))))) else (none)) = some r := H
 have A3 := Ak A30
 clear A30
 by_cases c4 : y521.length + t524.length < 140737488355328
 ·rw [if_pos c4] at H
  have LMc4 := Ak c4
  clear c4
  obtain ⟨y527, hy527⟩ : ∃ y_ : List Int, y_ = (y521 ++ t524) := ⟨_, rfl⟩
  replace H : (if (l1.length : Int) = 0 then (some y527) else (if a0 = 1 then (q_bytesOf.l0 k y527 l1 (l1.length : Int) 0) else (if a0 = 2 then ((q_runs.f k l1).bind fun t537 => (if y527.length + t537.length < 140737488355328 then (some (y527 ++ t537)) else (none))) else (if a0 = 3 then ((q_dict.f k l1).bind fun t543 => (if y527.length + t543.length < 140737488355328 then (some (y527 ++ t543)) else (none))) else (if a0 = 4 then ((q_frame.f k l1).bind fun t549 => (if y527.length + t549.length < 140737488355328 then (some (y527 ++ t549)) else (none))) else ((q_deltas.f k l1).bind fun t555 => (if y527.length + t555.length < 140737488355328 then (some (y527 ++ t555)) else (none)))))))) = some r := by (have H2_ := (Option.bind_some _ _).symm.trans H; rw [hy527]; with_reducible exact H2_)
  have Ny527 := Ak hy527
  clear hy527
  by_cases c5 : (l1.length : Int) = 0
  ·rw [if_pos c5] at H
   have c5b0 : ((l1.length : Int) == 0) = true := beq_iff_eq.mpr c5
   have c5b1 : ((l1.length : Int) != 0) = false := bne_eq_false_iff_eq.mpr c5
   clear c5
   obtain rfl := Option.some.inj H
   go_enter Try.func63, Try.ntmps63
   go_wp2_with (first | ((with_reducible refine gate_dst (N := 10) rfl ?_); refine Kd.R_lit (Kd.int .u8) _ 5 ?hg (N := 10) ?hd (xs := ([(a0) % 256] : List Int)) (inner := [.int .u8 ((a0) % 256)]) (ok := fun _ => True) (okp := fun _ => True) ?hr ?hp (fun _ hk => hk) trivial (Below.refl _ _) (Nat.le_refl _) (by simp) ?_; (case hd => rfl); (case hg => rfl); (case hr => (go_simp; done)); (case hp => exact (Reps.one (show Kd.M (Kd.int .u8) _ _ _ ((a0) % 256) [.int .u8 ((a0) % 256)] from rfl) (Reps.none _ _))); intro v522 w6 ho7 hb hg_ hnew_; clear hg_ hnew_; (rw [← Ny521.out] at ho7); have n0_ := Ak (Kd.R_lower ho7 (below_size (by exact HB.out))); have n1_ := Ak (below_step (by exact HB.out) hb); clear HB; have HO523 := n0_; have HB := n1_; clear n0_ n1_ hb ho7) | ((with_reducible refine gate_callee (f := 55) rfl ?_); refine goesL_ (some 13) rfl rfl Try.func55 (by kernel_rfl) rfl #[.int .i64 (l1.length : Int)] rfl (by (try simp only [lm]); rfl) ?_; (with_reducible refine (q_count.calls k (l1.length : Int) t524 _ A3.out).mono ?_); rintro e w8 ⟨v525, rfl, ho0, hb⟩; refine ⟨_, rfl, ?_⟩; have n0_ := Ak (Kd.R_elder' (by exact HO523.out) (Kd.R_base ho0) hb); have n1_ := Ak (Kd.R_lower (Kd.R_new' ho0 (Kd.R_lt (by exact HO523.out))) (below_size (by exact HB.out))); have n2_ := Ak (below_step (by exact HB.out) hb); clear HO523 HB; have HO523 := n0_; have HO526 := n1_; have HB := n2_; clear n0_ n1_ n2_; (try clear hb); (try clear ho0); obtain ⟨Ao10, co10, eo10⟩ := Kd.R_slice HO526.out; subst eo10) | ((with_reducible refine gate_builtin (b := .append) (xs := #[.tmp 10, .tmp 13]) rfl ?_); at_builtin; refine Kd.R_append_rows (Kd.int .u8) (w0 := w) w.heap.size rfl (.tmp 10) (.tmp 13) 27 5 (.int .u8 0) 1 rfl Try.underlying27 info5 rfl (by decide) (by omega) v522 y521 t524 _ _ _ (fun k_ => some k_ ≠ (.slice Ao10 t524.length co10 : Value).ownBlock) (fun _ => False) rfl rfl ?aO ?aR (fun _ _ h => h) (fun _ h => h.elim) ?aF ?aB ?aS ?aL ?_; (case aR => repeat (exact (Kd.R_reads' HO526.out).2.2)); (case aB => exact (by exact HB.out)); (case aF => exact (fun k_ hk => Kd.fresh' (Kd.R_lt (by exact HO526.out)) k_ hk)); (case aO => exact (by exact Kd.R_mono HO523.out (fun _ hk => hk.2))); (case aS => exact (below_size (by exact HB.out))); (case aL => have := LMc4.out; omega); intro v528 w9 ho hb hg hat; rw [← Ny527.out] at ho; have n0_ := Ak (Kd.R_after (ok := (fun _ => True)) (by exact HO526.out) hg hat); have n1_ := Ak (hb); have n2_ := Ak (ho); clear HO526 HB HO523; have HO526 := n0_; have HB := n1_; have HO529 := n2_; clear n0_ n1_ n2_ ho hb hg hat))
   go_ret
   exact ⟨_, by rfl, by exact Kd.R_mono HO529.out (fun _ hk => trivial), by exact HB.out⟩
  ·rw [if_neg c5] at H
   have c5b0 : ((l1.length : Int) == 0) = false := beq_eq_false_iff_ne.mpr c5
   have c5b1 : ((l1.length : Int) != 0) = true := bne_iff_ne.mpr c5
   have c5b2 : ¬ (l1 = []) := fun h_ => c5 (by rw [h_]; rfl)
   by_cases c11 : a0 = 1
   ·rw [if_pos c11] at H
    have c11b0 : (a0 == 1) = true := beq_iff_eq.mpr c11
    have c11b1 : (a0 != 1) = false := bne_eq_false_iff_eq.mpr c11
    clear c11
    have H' := Ak H
    clear H
    go_enter Try.func63, Try.ntmps63
    go_wp2_with (first | ((with_reducible refine gate_dst (N := 10) rfl ?_); refine Kd.R_lit (Kd.int .u8) _ 5 ?hg (N := 10) ?hd (xs := ([(a0) % 256] : List Int)) (inner := [.int .u8 ((a0) % 256)]) (ok := fun _ => True) (okp := fun _ => True) ?hr ?hp (fun _ hk => hk) trivial (Below.refl _ _) (Nat.le_refl _) (by simp) ?_; (case hd => rfl); (case hg => rfl); (case hr => (go_simp; done)); (case hp => exact (Reps.one (show Kd.M (Kd.int .u8) _ _ _ ((a0) % 256) [.int .u8 ((a0) % 256)] from rfl) (Reps.none _ _))); intro v522 w12 ho13 hb hg_ hnew_; clear hg_ hnew_; (rw [← Ny521.out] at ho13); have n0_ := Ak (Kd.R_lower ho13 (below_size (by exact HB.out))); have n1_ := Ak (below_step (by exact HB.out) hb); clear HB; have HO523 := n0_; have HB := n1_; clear n0_ n1_ hb ho13) | ((with_reducible refine gate_callee (f := 55) rfl ?_); refine goesL_ (some 13) rfl rfl Try.func55 (by kernel_rfl) rfl #[.int .i64 (l1.length : Int)] rfl (by (try simp only [lm]); rfl) ?_; (with_reducible refine (q_count.calls k (l1.length : Int) t524 _ A3.out).mono ?_); rintro e w14 ⟨v525, rfl, ho0, hb⟩; refine ⟨_, rfl, ?_⟩; have n0_ := Ak (Kd.R_elder' (by exact HO523.out) (Kd.R_base ho0) hb); have n1_ := Ak (Kd.R_lower (Kd.R_new' ho0 (Kd.R_lt (by exact HO523.out))) (below_size (by exact HB.out))); have n2_ := Ak (below_step (by exact HB.out) hb); clear HO523 HB; have HO523 := n0_; have HO526 := n1_; have HB := n2_; clear n0_ n1_ n2_; (try clear hb); (try clear ho0); obtain ⟨Ao16, co16, eo16⟩ := Kd.R_slice HO526.out; subst eo16) | ((with_reducible refine gate_builtin (b := .append) (xs := #[.tmp 10, .tmp 13]) rfl ?_); at_builtin; refine Kd.R_append_rows (Kd.int .u8) (w0 := w) w.heap.size rfl (.tmp 10) (.tmp 13) 27 5 (.int .u8 0) 1 rfl Try.underlying27 info5 rfl (by decide) (by omega) v522 y521 t524 _ _ _ (fun k_ => some k_ ≠ (.slice Ao16 t524.length co16 : Value).ownBlock) (fun _ => False) rfl rfl ?aO ?aR (fun _ _ h => h) (fun _ h => h.elim) ?aF ?aB ?aS ?aL ?_; (case aR => repeat (exact (Kd.R_reads' HO526.out).2.2)); (case aB => exact (by exact HB.out)); (case aF => exact (fun k_ hk => Kd.fresh' (Kd.R_lt (by exact HO526.out)) k_ hk)); (case aO => exact (by exact Kd.R_mono HO523.out (fun _ hk => hk.2))); (case aS => exact (below_size (by exact HB.out))); (case aL => have := LMc4.out; omega); intro v528 w15 ho hb hg hat; rw [← Ny527.out] at ho; have n0_ := Ak (Kd.R_after (ok := (fun _ => True)) (by exact HO526.out) hg hat); have n1_ := Ak (hb); have n2_ := Ak (ho); clear HO526 HB HO523; have HO526 := n0_; have HB := n1_; have HO529 := n2_; clear n0_ n1_ n2_ ho hb hg hat))
    go_loopg [5, 24] k (fun kq v5 v24 w' => ∃ (x5_1 : List Int) (x24_1 : Int), v24 = .int .i64 x24_1 ∧ Aside0 (q_bytesOf.l0 kq x5_1 l1 (l1.length : Int) x24_1 = some r) ∧ Aside0 (kq ≤ k) ∧ Aside0 (Kd.R (Kd.int .u8) 5 w' w.heap.size (fun _ => True) v5 x5_1) ∧ Aside0 (Below w.heap.size w w'))
    case atStart => exact ⟨(y527), (0), (by rfl), H', ⟨Nat.le_refl _⟩, ⟨by exact Kd.R_mono HO529.out (fun _ hk => trivial)⟩, ⟨by exact HB.out⟩⟩
    case round =>
     clear H'
     try clear c5
     try clear c5b0
     try clear c5b1
     try clear c5b2
     try clear c11b0
     try clear c11b1
     obtain ⟨x5_1, x24_1, rfl, HA, HK1, HO_5, HB⟩ := hrel
     cases gk with
     | zero => exact absurd HA.out (by simp [q_bytesOf.l0])
     | succ k1 =>
      have H := HA.out
      clear HA
      simp only [q_bytesOf.l0] at H
      by_cases c17 : x24_1 < (l1.length : Int)
      ·rw [if_pos c17] at H
       have c17b0 : decide (x24_1 < (l1.length : Int)) = true := decide_eq_true c17
       clear c17
       by_cases c18 : 0 ≤ x24_1
       ·rw [if_pos c18] at H
        have c18b0 : decide (0 ≤ x24_1) = true := decide_eq_true c18
        clear c18
        by_cases c19 : x24_1 < (l1.length : Int)
        ·rw [if_pos c19] at H
         have c19b0 : decide (x24_1 < (l1.length : Int)) = true := decide_eq_true c19
         clear c19
         replace H := Option.bind_eq_some_iff.mp H
         obtain ⟨t531, A200, H⟩ := H
         replace H : (if x5_1.length + t531.length < 140737488355328 then (q_bytesOf.l0 k1 (x5_1 ++ t531) l1 (l1.length : Int) (wrap64 (x24_1 + 1))) else (none)) = some r := H
         have A20 := Ak A200
         clear A200
         by_cases c21 : x5_1.length + t531.length < 140737488355328
         ·rw [if_pos c21] at H
          have LMc21 := Ak c21
          clear c21
          obtain ⟨y534, hy534⟩ : ∃ y_ : List Int, y_ = (x5_1 ++ t531) := ⟨_, rfl⟩
          replace H : (q_bytesOf.l0 k1 y534 l1 (l1.length : Int) (wrap64 (x24_1 + 1))) = some r := by (rw [hy534]; with_reducible exact H)
          have Ny534 := Ak hy534
          clear hy534
          have H' := Ak H
          clear H
          have p530 : 0 ≤ (x24_1 : Int) := of_decide_eq_true (by (with_reducible assumption))
          have q530 : x24_1 < (l1.length : Int) := of_decide_eq_true (by (with_reducible assumption))
          obtain ⟨ad530, e530, hx530_0⟩ := Kd.at_int HR1.out x24_1 p530 q530
          cases e530
          replace hx530_0 := (HB.out.cell (World.block_lt_of_cell? w _ hx530_0)).trans hx530_0
          replace p530 := eq_true p530
          replace q530 := eq_true q530
          go_wp2_with (first | ((with_reducible refine gate_callee (f := 81) rfl ?_); refine goesL_ (some 30) rfl rfl Try.func81 (by kernel_rfl) rfl #[.int .i64 (rd l1 x24_1)] rfl (by (try simp only [lm]); rfl) ?_; (with_reducible refine (q_number.calls k1 (rd l1 x24_1) t531 _ A20.out).mono ?_); rintro e w22 ⟨v532, rfl, ho0, hb⟩; refine ⟨_, rfl, ?_⟩; have n0_ := Ak (Kd.R_elder' (by exact HO_5.out) (Kd.R_base ho0) hb); have n1_ := Ak (Kd.R_lower (Kd.R_new' ho0 (Kd.R_lt (by exact HO_5.out))) (below_size (by exact HB.out))); have n2_ := Ak (below_step (by exact HB.out) hb); clear HO_5 HB; have HO_5 := n0_; have HO533 := n1_; have HB := n2_; clear n0_ n1_ n2_; (try clear hb); (try clear ho0); obtain ⟨Ao24, co24, eo24⟩ := Kd.R_slice HO533.out; subst eo24) | ((with_reducible refine gate_builtin (b := .append) (xs := #[.tmp 28, .tmp 30]) rfl ?_); at_builtin; refine Kd.R_append_rows (Kd.int .u8) (w0 := w) w.heap.size rfl (.tmp 28) (.tmp 30) 27 5 (.int .u8 0) 1 rfl Try.underlying27 info5 rfl (by decide) (by omega) u5 x5_1 t531 _ _ _ (fun k_ => some k_ ≠ (.slice Ao24 t531.length co24 : Value).ownBlock) (fun _ => False) rfl rfl ?aO ?aR (fun _ _ h => h) (fun _ h => h.elim) ?aF ?aB ?aS ?aL ?_; (case aR => repeat (exact (Kd.R_reads' HO533.out).2.2)); (case aB => exact (by exact HB.out)); (case aF => exact (fun k_ hk => Kd.fresh' (Kd.R_lt (by exact HO533.out)) k_ hk)); (case aO => exact (by exact Kd.R_mono HO_5.out (fun _ hk => hk.2))); (case aS => exact (below_size (by exact HB.out))); (case aL => have := LMc21.out; omega); intro v535 w23 ho hb hg hat; rw [← Ny534.out] at ho; have n0_ := Ak (Kd.R_after (ok := (fun _ => True)) (by exact HO533.out) hg hat); have n1_ := Ak (hb); have n2_ := Ak (ho); clear HO533 HB HO_5; have HO533 := n0_; have HB := n1_; have HO536 := n2_; clear n0_ n1_ n2_ ho hb hg hat))
          go_roundg k1
          case measure => have := HK1.out; omega
          case rel => exact ⟨(y534), (wrap64 (x24_1 + 1)), (by rfl), H', ⟨by have := HK1.out; omega⟩, ⟨by exact Kd.R_mono HO536.out (fun _ hk => trivial)⟩, ⟨by exact HB.out⟩⟩
         ·rw [if_neg c21] at H
          exact absurd H (by simp)
        ·rw [if_neg c19] at H
         exact absurd H (by simp)
       ·rw [if_neg c18] at H
        exact absurd H (by simp)
      ·rw [if_neg c17] at H
       have c17b0 : decide (x24_1 < (l1.length : Int)) = false := decide_eq_false c17
       clear c17
       obtain rfl := Option.some.inj H
       go_wp2
       go_ret
       exact ⟨_, by rfl, by exact HO_5.out, by exact HB.out⟩
   ·rw [if_neg c11] at H
    have c11b0 : (a0 == 1) = false := beq_eq_false_iff_ne.mpr c11
    have c11b1 : (a0 != 1) = true := bne_iff_ne.mpr c11
    by_cases c25 : a0 = 2
    ·rw [if_pos c25] at H
     have c25b0 : (a0 == 2) = true := beq_iff_eq.mpr c25
     have c25b1 : (a0 != 2) = false := bne_eq_false_iff_eq.mpr c25
     clear c25
     replace H := Option.bind_eq_some_iff.mp H
     obtain ⟨t537, A260, H⟩ := H
     replace H : (if y527.length + t537.length < 140737488355328 then (some (y527 ++ t537)) else (none)) = some r := H
     have A26 := Ak A260
     clear A260
     by_cases c27 : y527.length + t537.length < 140737488355328
     ·rw [if_pos c27] at H
      have LMc27 := Ak c27
      clear c27
      obtain ⟨y540, hy540⟩ : ∃ y_ : List Int, y_ = (y527 ++ t537) := ⟨_, rfl⟩
      replace H : (some y540) = some r := by (rw [hy540]; with_reducible exact H)
      have Ny540 := Ak hy540
      clear hy540
      obtain rfl := Option.some.inj H
      go_enter Try.func63, Try.ntmps63
      go_wp2_with (first | ((with_reducible refine gate_dst (N := 10) rfl ?_); refine Kd.R_lit (Kd.int .u8) _ 5 ?hg (N := 10) ?hd (xs := ([(a0) % 256] : List Int)) (inner := [.int .u8 ((a0) % 256)]) (ok := fun _ => True) (okp := fun _ => True) ?hr ?hp (fun _ hk => hk) trivial (Below.refl _ _) (Nat.le_refl _) (by simp) ?_; (case hd => rfl); (case hg => rfl); (case hr => (go_simp; done)); (case hp => exact (Reps.one (show Kd.M (Kd.int .u8) _ _ _ ((a0) % 256) [.int .u8 ((a0) % 256)] from rfl) (Reps.none _ _))); intro v522 w28 ho29 hb hg_ hnew_; clear hg_ hnew_; (rw [← Ny521.out] at ho29); have n0_ := Ak (Kd.R_lower ho29 (below_size (by exact HB.out))); have n1_ := Ak (below_step (by exact HB.out) hb); clear HB; have HO523 := n0_; have HB := n1_; clear n0_ n1_ hb ho29) | ((with_reducible refine gate_callee (f := 55) rfl ?_); refine goesL_ (some 13) rfl rfl Try.func55 (by kernel_rfl) rfl #[.int .i64 (l1.length : Int)] rfl (by (try simp only [lm]); rfl) ?_; (with_reducible refine (q_count.calls k (l1.length : Int) t524 _ A3.out).mono ?_); rintro e w30 ⟨v525, rfl, ho0, hb⟩; refine ⟨_, rfl, ?_⟩; have n0_ := Ak (Kd.R_elder' (by exact HO523.out) (Kd.R_base ho0) hb); have n1_ := Ak (Kd.R_lower (Kd.R_new' ho0 (Kd.R_lt (by exact HO523.out))) (below_size (by exact HB.out))); have n2_ := Ak (below_step (by exact HB.out) hb); clear HO523 HB; have HO523 := n0_; have HO526 := n1_; have HB := n2_; clear n0_ n1_ n2_; (try clear hb); (try clear ho0); obtain ⟨Ao32, co32, eo32⟩ := Kd.R_slice HO526.out; subst eo32) | ((with_reducible refine gate_builtin (b := .append) (xs := #[.tmp 10, .tmp 13]) rfl ?_); at_builtin; refine Kd.R_append_rows (Kd.int .u8) (w0 := w) w.heap.size rfl (.tmp 10) (.tmp 13) 27 5 (.int .u8 0) 1 rfl Try.underlying27 info5 rfl (by decide) (by omega) v522 y521 t524 _ _ _ (fun k_ => some k_ ≠ (.slice Ao32 t524.length co32 : Value).ownBlock) (fun _ => False) rfl rfl ?aO ?aR (fun _ _ h => h) (fun _ h => h.elim) ?aF ?aB ?aS ?aL ?_; (case aR => repeat (exact (Kd.R_reads' HO526.out).2.2)); (case aB => exact (by exact HB.out)); (case aF => exact (fun k_ hk => Kd.fresh' (Kd.R_lt (by exact HO526.out)) k_ hk)); (case aO => exact (by exact Kd.R_mono HO523.out (fun _ hk => hk.2))); (case aS => exact (below_size (by exact HB.out))); (case aL => have := LMc4.out; omega); intro v528 w31 ho hb hg hat; rw [← Ny527.out] at ho; have n0_ := Ak (Kd.R_after (ok := (fun _ => True)) (by exact HO526.out) hg hat); have n1_ := Ak (hb); have n2_ := Ak (ho); clear HO526 HB HO523; have HO526 := n0_; have HB := n1_; have HO529 := n2_; clear n0_ n1_ n2_ ho hb hg hat) | ((with_reducible refine gate_callee (f := 82) rfl ?_); refine goesL_ (some 38) rfl rfl Try.func82 (by kernel_rfl) rfl #[.slice A1 l1.length c1] rfl (by (try simp only [lm]); rfl) ?_; (with_reducible refine (q_runs.calls k _ _ l1 t537 _ ?side1 ?side2 A26.out).mono ?_); (case side1 => repeat (exact (Kd.C_below HR1.out HB.out))); (case side2 => exact HC1.out); rintro e w33 ⟨v538, rfl, ho0, hb⟩; refine ⟨_, rfl, ?_⟩; have n0_ := Ak (Kd.R_elder' (by exact HO526.out) (Kd.R_base ho0) hb); have n1_ := Ak (Kd.R_elder' (by exact HO529.out) (Kd.R_base ho0) hb); have n2_ := Ak (Kd.R_lower (Kd.R_new' (Kd.R_new' ho0 (Kd.R_lt (by exact HO526.out))) (Kd.R_lt (by exact HO529.out))) (below_size (by exact HB.out))); have n3_ := Ak (below_step (by exact HB.out) hb); clear HO526 HO529 HB; have HO526 := n0_; have HO529 := n1_; have HO539 := n2_; have HB := n3_; clear n0_ n1_ n2_ n3_; (try clear hb); (try clear ho0); obtain ⟨Ao35, co35, eo35⟩ := Kd.R_slice HO539.out; subst eo35) | ((with_reducible refine gate_builtin (b := .append) (xs := #[.tmp 36, .tmp 38]) rfl ?_); at_builtin; refine Kd.R_append_rows (Kd.int .u8) (w0 := w) w.heap.size rfl (.tmp 36) (.tmp 38) 27 5 (.int .u8 0) 1 rfl Try.underlying27 info5 rfl (by decide) (by omega) v528 y527 t537 _ _ _ (fun k_ => some k_ ≠ (.slice Ao32 t524.length co32 : Value).ownBlock ∧ some k_ ≠ (.slice Ao35 t537.length co35 : Value).ownBlock) (fun _ => False) rfl rfl ?aO ?aR (fun _ _ h => h) (fun _ h => h.elim) ?aF ?aB ?aS ?aL ?_; (case aR => repeat (exact (Kd.R_reads' HO539.out).2.2)); (case aB => exact (by exact HB.out)); (case aF => exact (fun k_ hk => ⟨Kd.fresh' (Kd.R_lt (by exact HO526.out)) k_ hk, Kd.fresh' (Kd.R_lt (by exact HO539.out)) k_ hk⟩)); (case aO => exact (by exact HO529.out)); (case aS => exact (below_size (by exact HB.out))); (case aL => have := LMc27.out; omega); intro v541 w34 ho hb hg hat; rw [← Ny540.out] at ho; have n0_ := Ak (Kd.R_after (ok := (fun k_ => some k_ ≠ (.slice Ao35 t537.length co35 : Value).ownBlock)) (by exact Kd.R_mono HO526.out (fun _ hk => ⟨hk.2, hk.1.2⟩)) hg hat); have n1_ := Ak (Kd.R_after (ok := (fun k_ => some k_ ≠ (.slice Ao32 t524.length co32 : Value).ownBlock)) (by exact Kd.R_mono HO539.out (fun _ hk => ⟨hk.1.2, hk.2⟩)) hg hat); have n2_ := Ak (hb); have n3_ := Ak (ho); clear HO526 HO539 HB HO529; have HO526 := n0_; have HO539 := n1_; have HB := n2_; have HO542 := n3_; clear n0_ n1_ n2_ n3_ ho hb hg hat))
      go_ret
      exact ⟨_, by rfl, by exact Kd.R_mono HO542.out (fun _ hk => trivial), by exact HB.out⟩
     ·rw [if_neg c27] at H
      exact absurd H (by simp)
    ·rw [if_neg c25] at H
     have c25b0 : (a0 == 2) = false := beq_eq_false_iff_ne.mpr c25
     have c25b1 : (a0 != 2) = true := bne_iff_ne.mpr c25
     by_cases c36 : a0 = 3
     ·rw [if_pos c36] at H
      have c36b0 : (a0 == 3) = true := beq_iff_eq.mpr c36
      have c36b1 : (a0 != 3) = false := bne_eq_false_iff_eq.mpr c36
      clear c36
      replace H := Option.bind_eq_some_iff.mp H
      obtain ⟨t543, A370, H⟩ := H
      replace H : (if y527.length + t543.length < 140737488355328 then (some (y527 ++ t543)) else (none)) = some r := H
      have A37 := Ak A370
      clear A370
      by_cases c38 : y527.length + t543.length < 140737488355328
      ·rw [if_pos c38] at H
       have LMc38 := Ak c38
       clear c38
       obtain ⟨y546, hy546⟩ : ∃ y_ : List Int, y_ = (y527 ++ t543) := ⟨_, rfl⟩
       replace H : (some y546) = some r := by (rw [hy546]; with_reducible exact H)
       have Ny546 := Ak hy546
       clear hy546
       obtain rfl := Option.some.inj H
       go_enter Try.func63, Try.ntmps63
       go_wp2_with (first | ((with_reducible refine gate_dst (N := 10) rfl ?_); refine Kd.R_lit (Kd.int .u8) _ 5 ?hg (N := 10) ?hd (xs := ([(a0) % 256] : List Int)) (inner := [.int .u8 ((a0) % 256)]) (ok := fun _ => True) (okp := fun _ => True) ?hr ?hp (fun _ hk => hk) trivial (Below.refl _ _) (Nat.le_refl _) (by simp) ?_; (case hd => rfl); (case hg => rfl); (case hr => (go_simp; done)); (case hp => exact (Reps.one (show Kd.M (Kd.int .u8) _ _ _ ((a0) % 256) [.int .u8 ((a0) % 256)] from rfl) (Reps.none _ _))); intro v522 w39 ho40 hb hg_ hnew_; clear hg_ hnew_; (rw [← Ny521.out] at ho40); have n0_ := Ak (Kd.R_lower ho40 (below_size (by exact HB.out))); have n1_ := Ak (below_step (by exact HB.out) hb); clear HB; have HO523 := n0_; have HB := n1_; clear n0_ n1_ hb ho40) | ((with_reducible refine gate_callee (f := 55) rfl ?_); refine goesL_ (some 13) rfl rfl Try.func55 (by kernel_rfl) rfl #[.int .i64 (l1.length : Int)] rfl (by (try simp only [lm]); rfl) ?_; (with_reducible refine (q_count.calls k (l1.length : Int) t524 _ A3.out).mono ?_); rintro e w41 ⟨v525, rfl, ho0, hb⟩; refine ⟨_, rfl, ?_⟩; have n0_ := Ak (Kd.R_elder' (by exact HO523.out) (Kd.R_base ho0) hb); have n1_ := Ak (Kd.R_lower (Kd.R_new' ho0 (Kd.R_lt (by exact HO523.out))) (below_size (by exact HB.out))); have n2_ := Ak (below_step (by exact HB.out) hb); clear HO523 HB; have HO523 := n0_; have HO526 := n1_; have HB := n2_; clear n0_ n1_ n2_; (try clear hb); (try clear ho0); obtain ⟨Ao43, co43, eo43⟩ := Kd.R_slice HO526.out; subst eo43) | ((with_reducible refine gate_builtin (b := .append) (xs := #[.tmp 10, .tmp 13]) rfl ?_); at_builtin; refine Kd.R_append_rows (Kd.int .u8) (w0 := w) w.heap.size rfl (.tmp 10) (.tmp 13) 27 5 (.int .u8 0) 1 rfl Try.underlying27 info5 rfl (by decide) (by omega) v522 y521 t524 _ _ _ (fun k_ => some k_ ≠ (.slice Ao43 t524.length co43 : Value).ownBlock) (fun _ => False) rfl rfl ?aO ?aR (fun _ _ h => h) (fun _ h => h.elim) ?aF ?aB ?aS ?aL ?_; (case aR => repeat (exact (Kd.R_reads' HO526.out).2.2)); (case aB => exact (by exact HB.out)); (case aF => exact (fun k_ hk => Kd.fresh' (Kd.R_lt (by exact HO526.out)) k_ hk)); (case aO => exact (by exact Kd.R_mono HO523.out (fun _ hk => hk.2))); (case aS => exact (below_size (by exact HB.out))); (case aL => have := LMc4.out; omega); intro v528 w42 ho hb hg hat; rw [← Ny527.out] at ho; have n0_ := Ak (Kd.R_after (ok := (fun _ => True)) (by exact HO526.out) hg hat); have n1_ := Ak (hb); have n2_ := Ak (ho); clear HO526 HB HO523; have HO526 := n0_; have HB := n1_; have HO529 := n2_; clear n0_ n1_ n2_ ho hb hg hat) | ((with_reducible refine gate_callee (f := 83) rfl ?_); refine goesL_ (some 44) rfl rfl Try.func83 (by kernel_rfl) rfl #[.slice A1 l1.length c1] rfl (by (try simp only [lm]); rfl) ?_; (with_reducible refine (q_dict.calls k _ _ l1 t543 _ ?side1 ?side2 A37.out).mono ?_); (case side1 => repeat (exact (Kd.C_below HR1.out HB.out))); (case side2 => exact HC1.out); rintro e w44 ⟨v544, rfl, ho0, hb⟩; refine ⟨_, rfl, ?_⟩; have n0_ := Ak (Kd.R_elder' (by exact HO526.out) (Kd.R_base ho0) hb); have n1_ := Ak (Kd.R_elder' (by exact HO529.out) (Kd.R_base ho0) hb); have n2_ := Ak (Kd.R_lower (Kd.R_new' (Kd.R_new' ho0 (Kd.R_lt (by exact HO526.out))) (Kd.R_lt (by exact HO529.out))) (below_size (by exact HB.out))); have n3_ := Ak (below_step (by exact HB.out) hb); clear HO526 HO529 HB; have HO526 := n0_; have HO529 := n1_; have HO545 := n2_; have HB := n3_; clear n0_ n1_ n2_ n3_; (try clear hb); (try clear ho0); obtain ⟨Ao46, co46, eo46⟩ := Kd.R_slice HO545.out; subst eo46) | ((with_reducible refine gate_builtin (b := .append) (xs := #[.tmp 42, .tmp 44]) rfl ?_); at_builtin; refine Kd.R_append_rows (Kd.int .u8) (w0 := w) w.heap.size rfl (.tmp 42) (.tmp 44) 27 5 (.int .u8 0) 1 rfl Try.underlying27 info5 rfl (by decide) (by omega) v528 y527 t543 _ _ _ (fun k_ => some k_ ≠ (.slice Ao43 t524.length co43 : Value).ownBlock ∧ some k_ ≠ (.slice Ao46 t543.length co46 : Value).ownBlock) (fun _ => False) rfl rfl ?aO ?aR (fun _ _ h => h) (fun _ h => h.elim) ?aF ?aB ?aS ?aL ?_; (case aR => repeat (exact (Kd.R_reads' HO545.out).2.2)); (case aB => exact (by exact HB.out)); (case aF => exact (fun k_ hk => ⟨Kd.fresh' (Kd.R_lt (by exact HO526.out)) k_ hk, Kd.fresh' (Kd.R_lt (by exact HO545.out)) k_ hk⟩)); (case aO => exact (by exact HO529.out)); (case aS => exact (below_size (by exact HB.out))); (case aL => have := LMc38.out; omega); intro v547 w45 ho hb hg hat; rw [← Ny546.out] at ho; have n0_ := Ak (Kd.R_after (ok := (fun k_ => some k_ ≠ (.slice Ao46 t543.length co46 : Value).ownBlock)) (by exact Kd.R_mono HO526.out (fun _ hk => ⟨hk.2, hk.1.2⟩)) hg hat); have n1_ := Ak (Kd.R_after (ok := (fun k_ => some k_ ≠ (.slice Ao43 t524.length co43 : Value).ownBlock)) (by exact Kd.R_mono HO545.out (fun _ hk => ⟨hk.1.2, hk.2⟩)) hg hat); have n2_ := Ak (hb); have n3_ := Ak (ho); clear HO526 HO545 HB HO529; have HO526 := n0_; have HO545 := n1_; have HB := n2_; have HO548 := n3_; clear n0_ n1_ n2_ n3_ ho hb hg hat))
       go_ret
       exact ⟨_, by rfl, by exact Kd.R_mono HO548.out (fun _ hk => trivial), by exact HB.out⟩
      ·rw [if_neg c38] at H
       exact absurd H (by simp)
     ·rw [if_neg c36] at H
      have c36b0 : (a0 == 3) = false := beq_eq_false_iff_ne.mpr c36
      have c36b1 : (a0 != 3) = true := bne_iff_ne.mpr c36
      by_cases c47 : a0 = 4
      ·rw [if_pos c47] at H
       have c47b0 : (a0 == 4) = true := beq_iff_eq.mpr c47
       have c47b1 : (a0 != 4) = false := bne_eq_false_iff_eq.mpr c47
       clear c47
       replace H := Option.bind_eq_some_iff.mp H
       obtain ⟨t549, A480, H⟩ := H
       replace H : (if y527.length + t549.length < 140737488355328 then (some (y527 ++ t549)) else (none)) = some r := H
       have A48 := Ak A480
       clear A480
       by_cases c49 : y527.length + t549.length < 140737488355328
       ·rw [if_pos c49] at H
        have LMc49 := Ak c49
        clear c49
        obtain ⟨y552, hy552⟩ : ∃ y_ : List Int, y_ = (y527 ++ t549) := ⟨_, rfl⟩
        replace H : (some y552) = some r := by (rw [hy552]; with_reducible exact H)
        have Ny552 := Ak hy552
        clear hy552
        obtain rfl := Option.some.inj H
        go_enter Try.func63, Try.ntmps63
        go_wp2_with (first | ((with_reducible refine gate_dst (N := 10) rfl ?_); refine Kd.R_lit (Kd.int .u8) _ 5 ?hg (N := 10) ?hd (xs := ([(a0) % 256] : List Int)) (inner := [.int .u8 ((a0) % 256)]) (ok := fun _ => True) (okp := fun _ => True) ?hr ?hp (fun _ hk => hk) trivial (Below.refl _ _) (Nat.le_refl _) (by simp) ?_; (case hd => rfl); (case hg => rfl); (case hr => (go_simp; done)); (case hp => exact (Reps.one (show Kd.M (Kd.int .u8) _ _ _ ((a0) % 256) [.int .u8 ((a0) % 256)] from rfl) (Reps.none _ _))); intro v522 w50 ho51 hb hg_ hnew_; clear hg_ hnew_; (rw [← Ny521.out] at ho51); have n0_ := Ak (Kd.R_lower ho51 (below_size (by exact HB.out))); have n1_ := Ak (below_step (by exact HB.out) hb); clear HB; have HO523 := n0_; have HB := n1_; clear n0_ n1_ hb ho51) | ((with_reducible refine gate_callee (f := 55) rfl ?_); refine goesL_ (some 13) rfl rfl Try.func55 (by kernel_rfl) rfl #[.int .i64 (l1.length : Int)] rfl (by (try simp only [lm]); rfl) ?_; (with_reducible refine (q_count.calls k (l1.length : Int) t524 _ A3.out).mono ?_); rintro e w52 ⟨v525, rfl, ho0, hb⟩; refine ⟨_, rfl, ?_⟩; have n0_ := Ak (Kd.R_elder' (by exact HO523.out) (Kd.R_base ho0) hb); have n1_ := Ak (Kd.R_lower (Kd.R_new' ho0 (Kd.R_lt (by exact HO523.out))) (below_size (by exact HB.out))); have n2_ := Ak (below_step (by exact HB.out) hb); clear HO523 HB; have HO523 := n0_; have HO526 := n1_; have HB := n2_; clear n0_ n1_ n2_; (try clear hb); (try clear ho0); obtain ⟨Ao54, co54, eo54⟩ := Kd.R_slice HO526.out; subst eo54) | ((with_reducible refine gate_builtin (b := .append) (xs := #[.tmp 10, .tmp 13]) rfl ?_); at_builtin; refine Kd.R_append_rows (Kd.int .u8) (w0 := w) w.heap.size rfl (.tmp 10) (.tmp 13) 27 5 (.int .u8 0) 1 rfl Try.underlying27 info5 rfl (by decide) (by omega) v522 y521 t524 _ _ _ (fun k_ => some k_ ≠ (.slice Ao54 t524.length co54 : Value).ownBlock) (fun _ => False) rfl rfl ?aO ?aR (fun _ _ h => h) (fun _ h => h.elim) ?aF ?aB ?aS ?aL ?_; (case aR => repeat (exact (Kd.R_reads' HO526.out).2.2)); (case aB => exact (by exact HB.out)); (case aF => exact (fun k_ hk => Kd.fresh' (Kd.R_lt (by exact HO526.out)) k_ hk)); (case aO => exact (by exact Kd.R_mono HO523.out (fun _ hk => hk.2))); (case aS => exact (below_size (by exact HB.out))); (case aL => have := LMc4.out; omega); intro v528 w53 ho hb hg hat; rw [← Ny527.out] at ho; have n0_ := Ak (Kd.R_after (ok := (fun _ => True)) (by exact HO526.out) hg hat); have n1_ := Ak (hb); have n2_ := Ak (ho); clear HO526 HB HO523; have HO526 := n0_; have HB := n1_; have HO529 := n2_; clear n0_ n1_ n2_ ho hb hg hat) | ((with_reducible refine gate_callee (f := 84) rfl ?_); refine goesL_ (some 50) rfl rfl Try.func84 (by kernel_rfl) rfl #[.slice A1 l1.length c1] rfl (by (try simp only [lm]); rfl) ?_; (with_reducible refine (q_frame.calls k _ _ l1 t549 _ ?side1 ?side2 A48.out).mono ?_); (case side1 => repeat (exact (Kd.C_below HR1.out HB.out))); (case side2 => exact HC1.out); rintro e w55 ⟨v550, rfl, ho0, hb⟩; refine ⟨_, rfl, ?_⟩; have n0_ := Ak (Kd.R_elder' (by exact HO526.out) (Kd.R_base ho0) hb); have n1_ := Ak (Kd.R_elder' (by exact HO529.out) (Kd.R_base ho0) hb); have n2_ := Ak (Kd.R_lower (Kd.R_new' (Kd.R_new' ho0 (Kd.R_lt (by exact HO526.out))) (Kd.R_lt (by exact HO529.out))) (below_size (by exact HB.out))); have n3_ := Ak (below_step (by exact HB.out) hb); clear HO526 HO529 HB; have HO526 := n0_; have HO529 := n1_; have HO551 := n2_; have HB := n3_; clear n0_ n1_ n2_ n3_; (try clear hb); (try clear ho0); obtain ⟨Ao57, co57, eo57⟩ := Kd.R_slice HO551.out; subst eo57) | ((with_reducible refine gate_builtin (b := .append) (xs := #[.tmp 48, .tmp 50]) rfl ?_); at_builtin; refine Kd.R_append_rows (Kd.int .u8) (w0 := w) w.heap.size rfl (.tmp 48) (.tmp 50) 27 5 (.int .u8 0) 1 rfl Try.underlying27 info5 rfl (by decide) (by omega) v528 y527 t549 _ _ _ (fun k_ => some k_ ≠ (.slice Ao54 t524.length co54 : Value).ownBlock ∧ some k_ ≠ (.slice Ao57 t549.length co57 : Value).ownBlock) (fun _ => False) rfl rfl ?aO ?aR (fun _ _ h => h) (fun _ h => h.elim) ?aF ?aB ?aS ?aL ?_; (case aR => repeat (exact (Kd.R_reads' HO551.out).2.2)); (case aB => exact (by exact HB.out)); (case aF => exact (fun k_ hk => ⟨Kd.fresh' (Kd.R_lt (by exact HO526.out)) k_ hk, Kd.fresh' (Kd.R_lt (by exact HO551.out)) k_ hk⟩)); (case aO => exact (by exact HO529.out)); (case aS => exact (below_size (by exact HB.out))); (case aL => have := LMc49.out; omega); intro v553 w56 ho hb hg hat; rw [← Ny552.out] at ho; have n0_ := Ak (Kd.R_after (ok := (fun k_ => some k_ ≠ (.slice Ao57 t549.length co57 : Value).ownBlock)) (by exact Kd.R_mono HO526.out (fun _ hk => ⟨hk.2, hk.1.2⟩)) hg hat); have n1_ := Ak (Kd.R_after (ok := (fun k_ => some k_ ≠ (.slice Ao54 t524.length co54 : Value).ownBlock)) (by exact Kd.R_mono HO551.out (fun _ hk => ⟨hk.1.2, hk.2⟩)) hg hat); have n2_ := Ak (hb); have n3_ := Ak (ho); clear HO526 HO551 HB HO529; have HO526 := n0_; have HO551 := n1_; have HB := n2_; have HO554 := n3_; clear n0_ n1_ n2_ n3_ ho hb hg hat))
        go_ret
        exact ⟨_, by rfl, by exact Kd.R_mono HO554.out (fun _ hk => trivial), by exact HB.out⟩
       ·rw [if_neg c49] at H
        exact absurd H (by simp)
      ·rw [if_neg c47] at H
       have c47b0 : (a0 == 4) = false := beq_eq_false_iff_ne.mpr c47
       have c47b1 : (a0 != 4) = true := bne_iff_ne.mpr c47
       replace H := Option.bind_eq_some_iff.mp H
       obtain ⟨t555, A580, H⟩ := H
       replace H : (if y527.length + t555.length < 140737488355328 then (some (y527 ++ t555)) else (none)) = some r := H
       have A58 := Ak A580
       clear A580
       by_cases c59 : y527.length + t555.length < 140737488355328
       ·rw [if_pos c59] at H
        have LMc59 := Ak c59
        clear c59
        obtain ⟨y558, hy558⟩ : ∃ y_ : List Int, y_ = (y527 ++ t555) := ⟨_, rfl⟩
        replace H : (some y558) = some r := by (rw [hy558]; with_reducible exact H)
        have Ny558 := Ak hy558
        clear hy558
        obtain rfl := Option.some.inj H
        go_enter Try.func63, Try.ntmps63
        go_wp2_with (first | ((with_reducible refine gate_dst (N := 10) rfl ?_); refine Kd.R_lit (Kd.int .u8) _ 5 ?hg (N := 10) ?hd (xs := ([(a0) % 256] : List Int)) (inner := [.int .u8 ((a0) % 256)]) (ok := fun _ => True) (okp := fun _ => True) ?hr ?hp (fun _ hk => hk) trivial (Below.refl _ _) (Nat.le_refl _) (by simp) ?_; (case hd => rfl); (case hg => rfl); (case hr => (go_simp; done)); (case hp => exact (Reps.one (show Kd.M (Kd.int .u8) _ _ _ ((a0) % 256) [.int .u8 ((a0) % 256)] from rfl) (Reps.none _ _))); intro v522 w60 ho61 hb hg_ hnew_; clear hg_ hnew_; (rw [← Ny521.out] at ho61); have n0_ := Ak (Kd.R_lower ho61 (below_size (by exact HB.out))); have n1_ := Ak (below_step (by exact HB.out) hb); clear HB; have HO523 := n0_; have HB := n1_; clear n0_ n1_ hb ho61) | ((with_reducible refine gate_callee (f := 55) rfl ?_); refine goesL_ (some 13) rfl rfl Try.func55 (by kernel_rfl) rfl #[.int .i64 (l1.length : Int)] rfl (by (try simp only [lm]); rfl) ?_; (with_reducible refine (q_count.calls k (l1.length : Int) t524 _ A3.out).mono ?_); rintro e w62 ⟨v525, rfl, ho0, hb⟩; refine ⟨_, rfl, ?_⟩; have n0_ := Ak (Kd.R_elder' (by exact HO523.out) (Kd.R_base ho0) hb); have n1_ := Ak (Kd.R_lower (Kd.R_new' ho0 (Kd.R_lt (by exact HO523.out))) (below_size (by exact HB.out))); have n2_ := Ak (below_step (by exact HB.out) hb); clear HO523 HB; have HO523 := n0_; have HO526 := n1_; have HB := n2_; clear n0_ n1_ n2_; (try clear hb); (try clear ho0); obtain ⟨Ao64, co64, eo64⟩ := Kd.R_slice HO526.out; subst eo64) | ((with_reducible refine gate_builtin (b := .append) (xs := #[.tmp 10, .tmp 13]) rfl ?_); at_builtin; refine Kd.R_append_rows (Kd.int .u8) (w0 := w) w.heap.size rfl (.tmp 10) (.tmp 13) 27 5 (.int .u8 0) 1 rfl Try.underlying27 info5 rfl (by decide) (by omega) v522 y521 t524 _ _ _ (fun k_ => some k_ ≠ (.slice Ao64 t524.length co64 : Value).ownBlock) (fun _ => False) rfl rfl ?aO ?aR (fun _ _ h => h) (fun _ h => h.elim) ?aF ?aB ?aS ?aL ?_; (case aR => repeat (exact (Kd.R_reads' HO526.out).2.2)); (case aB => exact (by exact HB.out)); (case aF => exact (fun k_ hk => Kd.fresh' (Kd.R_lt (by exact HO526.out)) k_ hk)); (case aO => exact (by exact Kd.R_mono HO523.out (fun _ hk => hk.2))); (case aS => exact (below_size (by exact HB.out))); (case aL => have := LMc4.out; omega); intro v528 w63 ho hb hg hat; rw [← Ny527.out] at ho; have n0_ := Ak (Kd.R_after (ok := (fun _ => True)) (by exact HO526.out) hg hat); have n1_ := Ak (hb); have n2_ := Ak (ho); clear HO526 HB HO523; have HO526 := n0_; have HB := n1_; have HO529 := n2_; clear n0_ n1_ n2_ ho hb hg hat) | ((with_reducible refine gate_callee (f := 85) rfl ?_); refine goesL_ (some 54) rfl rfl Try.func85 (by kernel_rfl) rfl #[.slice A1 l1.length c1] rfl (by (try simp only [lm]); rfl) ?_; (with_reducible refine (q_deltas.calls k _ _ l1 t555 _ ?side1 ?side2 A58.out).mono ?_); (case side1 => repeat (exact (Kd.C_below HR1.out HB.out))); (case side2 => exact HC1.out); rintro e w65 ⟨v556, rfl, ho0, hb⟩; refine ⟨_, rfl, ?_⟩; have n0_ := Ak (Kd.R_elder' (by exact HO526.out) (Kd.R_base ho0) hb); have n1_ := Ak (Kd.R_elder' (by exact HO529.out) (Kd.R_base ho0) hb); have n2_ := Ak (Kd.R_lower (Kd.R_new' (Kd.R_new' ho0 (Kd.R_lt (by exact HO526.out))) (Kd.R_lt (by exact HO529.out))) (below_size (by exact HB.out))); have n3_ := Ak (below_step (by exact HB.out) hb); clear HO526 HO529 HB; have HO526 := n0_; have HO529 := n1_; have HO557 := n2_; have HB := n3_; clear n0_ n1_ n2_ n3_; (try clear hb); (try clear ho0); obtain ⟨Ao67, co67, eo67⟩ := Kd.R_slice HO557.out; subst eo67) | ((with_reducible refine gate_builtin (b := .append) (xs := #[.tmp 52, .tmp 54]) rfl ?_); at_builtin; refine Kd.R_append_rows (Kd.int .u8) (w0 := w) w.heap.size rfl (.tmp 52) (.tmp 54) 27 5 (.int .u8 0) 1 rfl Try.underlying27 info5 rfl (by decide) (by omega) v528 y527 t555 _ _ _ (fun k_ => some k_ ≠ (.slice Ao64 t524.length co64 : Value).ownBlock ∧ some k_ ≠ (.slice Ao67 t555.length co67 : Value).ownBlock) (fun _ => False) rfl rfl ?aO ?aR (fun _ _ h => h) (fun _ h => h.elim) ?aF ?aB ?aS ?aL ?_; (case aR => repeat (exact (Kd.R_reads' HO557.out).2.2)); (case aB => exact (by exact HB.out)); (case aF => exact (fun k_ hk => ⟨Kd.fresh' (Kd.R_lt (by exact HO526.out)) k_ hk, Kd.fresh' (Kd.R_lt (by exact HO557.out)) k_ hk⟩)); (case aO => exact (by exact HO529.out)); (case aS => exact (below_size (by exact HB.out))); (case aL => have := LMc59.out; omega); intro v559 w66 ho hb hg hat; rw [← Ny558.out] at ho; have n0_ := Ak (Kd.R_after (ok := (fun k_ => some k_ ≠ (.slice Ao67 t555.length co67 : Value).ownBlock)) (by exact Kd.R_mono HO526.out (fun _ hk => ⟨hk.2, hk.1.2⟩)) hg hat); have n1_ := Ak (Kd.R_after (ok := (fun k_ => some k_ ≠ (.slice Ao64 t524.length co64 : Value).ownBlock)) (by exact Kd.R_mono HO557.out (fun _ hk => ⟨hk.1.2, hk.2⟩)) hg hat); have n2_ := Ak (hb); have n3_ := Ak (ho); clear HO526 HO557 HB HO529; have HO526 := n0_; have HO557 := n1_; have HB := n2_; have HO560 := n3_; clear n0_ n1_ n2_ n3_ ho hb hg hat))
        go_ret
        exact ⟨_, by rfl, by exact Kd.R_mono HO560.out (fun _ hk => trivial), by exact HB.out⟩
       ·rw [if_neg c59] at H
        exact absurd H (by simp)
 ·rw [if_neg c4] at H
  exact absurd H (by simp)
def q_Encode.j0 : Nat → Int → List Int → Bool → Option (List Int × Int)
 | 0, _, _, _ => none
 | k + 1, x0, x1, x12 => if x12 = true then (some (([] : List Int), 4)) else ((q_checkInts.f k x1).bind fun t561 => (if t561 = 0 then ((q_bytesOf.f k x0 x1).bind fun t562 => (some (t562, 0))) else (some (([] : List Int), t561))))
def q_Encode.f (k : Nat) (a0 : Int) (l1 : List Int) : Option (List Int × Int) := if a0 < 1 then (q_Encode.j0 k a0 l1 true) else (q_Encode.j0 k a0 l1 (decide (a0 > 5)))
theorem q_Encode.mono_l : ∀ k, (∀ y0 y1 y2, LeO (q_Encode.j0 k y0 y1 y2) (q_Encode.j0 (k + 1) y0 y1 y2))
 | 0 => fun _ _ _ r h => by simp [q_Encode.j0] at h
 | k + 1 => by
  have ih0 := q_Encode.mono_l k
  ·intro y0 y1 y2
   unfold q_Encode.j0
   repeat' first
   | (with_reducible exact q_bytesOf.mono _ _ _)
   | (with_reducible exact q_checkInts.mono _ _)
   | (with_reducible exact LeO.refl _)
   | (with_reducible refine LeO.ite ?_ ?_)
   | (with_reducible refine LeO.bind ?_ (fun _ => ?_))
theorem q_Encode.mono : ∀ a0 a1 k, LeO (q_Encode.f k a0 a1) (q_Encode.f (k + 1) a0 a1) := by
 intro a0 a1 k
 have ih0 := q_Encode.mono_l k
 unfold q_Encode.f
 repeat' first
  | (with_reducible exact ih0 _ _ _)
  | (with_reducible refine LeO.ite ?_ ?_)
set_option maxHeartbeats 8000000 in
set_option maxRecDepth 100000 in
theorem q_Encode.calls (k : Nat) (a0 : Int) (A1 : Option Addr) (c1 : Nat) (l1 : List Int) (r1 : List Int) (r2 : Int) (w : World) (hr1 : Kd.C (Kd.int .i64) w A1 l1.length l1) (hc1 : l1.length ≤ c1) (h : q_Encode.f k a0 l1 = some (r1, r2)) :
 Calls Try.prog 23 #[.int .i64 a0, .slice A1 l1.length c1] w fun e w' => ∃ v0_ : Value, e = .returned (.tuple #[v0_, .int .i64 r2]) ∧ Kd.R (Kd.int .u8) 5 w' w.heap.size (fun _ => True) v0_ r1 ∧ Below w.heap.size w w' := by
 have HR1 := Ak hr1
 have HC1 := Ak hc1
 clear hr1 hc1
 have HB := Ak (Below.refl w.heap.size w)
 have H : (if a0 < 1 then (q_Encode.j0 k a0 l1 true) else (q_Encode.j0 k a0 l1 (decide (a0 > 5)))) = some (r1, r2) := h
 clear h
 have HC3 := Ak H
 clear H
 go_enter Try.func23, Try.ntmps23
 go_upto_region 1 with (fail)
 go_cut [12] (fun v12 wc => ∃ (kq : Nat) (x12_2 : Bool), v12 = .bool x12_2 ∧ Aside0 (q_Encode.j0 kq a0 l1 x12_2 = some (r1, r2)) ∧ Aside0 (kq ≤ k) ∧ Aside0 (Below w.heap.size w wc))
 case first =>
  have H := HC3.out
  clear HC3
  by_cases c4 : a0 < 1
  ·rw [if_pos c4] at H
   have c4b0 : decide (a0 < 1) = true := decide_eq_true c4
   clear c4
   (skip)
   (try rw [c4b1])
   have H' := Ak H
   clear H
   go_wp2
   go_meet
   case rel => exact ⟨_, (true), (by rfl), H', ⟨by omega⟩, ⟨by exact HB.out⟩⟩
  ·rw [if_neg c4] at H
   have c4b0 : decide (a0 < 1) = false := decide_eq_false c4
   clear c4
   (skip)
   (try rw [c4b1])
   have H' := Ak H
   clear H
   go_wp2
   go_meet
   case rel => exact ⟨_, (decide (a0 > 5)), (by rfl), H', ⟨by omega⟩, ⟨by exact HB.out⟩⟩
 case rest =>
  clear HC3
  obtain ⟨kq, x12_2, rfl, HA, HJ2, HB⟩ := hcut
  cases kq with
  | zero => exact absurd HA.out (by simp [q_Encode.j0])
  | succ kj2 =>
   have H := HA.out
   clear HA
   simp only [q_Encode.j0] at H
   by_cases c5 : x12_2 = true
   ·subst c5
    replace H : (some (([] : List Int), 4)) = some (r1, r2) := by rw [if_pos rfl] at H; exact H
    simp only [Option.some.injEq, Prod.mk.injEq] at H
    obtain ⟨rfl, rfl⟩ := H
    go_wp2
    go_ret2
    exact ⟨_, by rfl, by exact Kd.R_nil _ _ _ _ _, by exact HB.out⟩
   ·replace c5 := Bool.eq_false_iff.mpr c5
    subst c5
    replace H : ((q_checkInts.f kj2 l1).bind fun t561 => (if t561 = 0 then ((q_bytesOf.f kj2 a0 l1).bind fun t562 => (some (t562, 0))) else (some (([] : List Int), t561)))) = some (r1, r2) := by rw [if_neg (show ¬ (false = true) by decide)] at H; exact H
    replace H := Option.bind_eq_some_iff.mp H
    obtain ⟨t561, A60, H⟩ := H
    replace H : (if t561 = 0 then ((q_bytesOf.f kj2 a0 l1).bind fun t562 => (some (t562, 0))) else (some (([] : List Int), t561))) = some (r1, r2) := H
    have A6 := Ak A60
    clear A60
    by_cases c7 : t561 = 0
    ·rw [if_pos c7] at H
     have c7b0 : (t561 == 0) = true := beq_iff_eq.mpr c7
     have c7b1 : (t561 != 0) = false := bne_eq_false_iff_eq.mpr c7
     clear c7
     replace H := Option.bind_eq_some_iff.mp H
     obtain ⟨t562, A80, H⟩ := H
     replace H : (some (t562, 0)) = some (r1, r2) := H
     have A8 := Ak A80
     clear A80
     simp only [Option.some.injEq, Prod.mk.injEq] at H
     obtain ⟨rfl, rfl⟩ := H
     go_wp2_with (first | ((with_reducible refine gate_callee (f := 62) rfl ?_); refine goesL_ (some 14) rfl rfl Try.func62 (by kernel_rfl) rfl #[.slice A1 l1.length c1] rfl (by (try simp only [lm]); rfl) ?_; (with_reducible refine (q_checkInts.calls kj2 _ _ l1 t561 _ ?side1 ?side2 A6.out).mono ?_); (case side1 => repeat (exact (Kd.C_below HR1.out HB.out))); (case side2 => exact HC1.out); rintro e w' ⟨rfl, ⟨nd, rfl⟩⟩; refine ⟨_, rfl, ?_⟩) | ((with_reducible refine gate_callee (f := 63) rfl ?_); refine goesL_ (some 20) rfl rfl Try.func63 (by kernel_rfl) rfl #[.int .i64 a0, .slice A1 l1.length c1] rfl (by (try simp only [lm]); rfl) ?_; (with_reducible refine (q_bytesOf.calls kj2 a0 _ _ l1 t562 _ ?side1 ?side2 A8.out).mono ?_); (case side1 => repeat (exact (Kd.C_below HR1.out (by repeat ((with_reducible first | exact HB.out | apply pw_below_drewN)))))); (case side2 => exact HC1.out); rintro e w9 ⟨v563, rfl, ho0, hb⟩; refine ⟨_, rfl, ?_⟩; have n0_ := Ak (Kd.R_lower ho0 (below_size (by repeat ((with_reducible first | exact HB.out | apply pw_below_drewN))))); have n1_ := Ak (below_step (by repeat ((with_reducible first | exact HB.out | apply pw_below_drewN))) hb); clear HB; have HO564 := n0_; have HB := n1_; clear n0_ n1_; (try clear hb); (try clear ho0)))
     go_ret2
     exact ⟨_, by rfl, by exact HO564.out, by exact HB.out⟩
    ·rw [if_neg c7] at H
     have c7b0 : (t561 == 0) = false := beq_eq_false_iff_ne.mpr c7
     have c7b1 : (t561 != 0) = true := bne_iff_ne.mpr c7
     simp only [Option.some.injEq, Prod.mk.injEq] at H
     obtain ⟨rfl, rfl⟩ := H
     go_wp2_with (first | ((with_reducible refine gate_callee (f := 62) rfl ?_); refine goesL_ (some 14) rfl rfl Try.func62 (by kernel_rfl) rfl #[.slice A1 l1.length c1] rfl (by (try simp only [lm]); rfl) ?_; (with_reducible refine (q_checkInts.calls kj2 _ _ l1 t561 _ ?side1 ?side2 A6.out).mono ?_); (case side1 => repeat (exact (Kd.C_below HR1.out HB.out))); (case side2 => exact HC1.out); rintro e w' ⟨rfl, ⟨nd, rfl⟩⟩; refine ⟨_, rfl, ?_⟩))
     go_ret2
     exact ⟨_, by rfl, by exact Kd.R_nil _ _ _ _ _, by repeat ((with_reducible first | exact HB.out | apply pw_below_drewN))⟩
-- (written by hand)
/-- A state of type 75 at block g of W; what its slices lead to came in by w0. -/
def IsS75 (w0 W : World) (g : Nat) (f0 : List Int) (f1 : Bool) : Prop := ∃ A0 c0, W.heap[g]? = some (.cells #[.slice A0 f0.length c0, .bool f1] 75 (0, 0)) ∧ w0.heap.size ≤ g ∧ (f0.length ≤ c0 ∧ Kd.C (Kd.int .u8) w0 A0 f0.length f0)
theorem IsS75.grown {w0 W : World} {g : Nat} {f0 : List Int} {f1 : Bool} {W1 : World} {row : Option Nat} (h : IsS75 w0 W g f0 f1) (hw : W.grownBy W1 row) (hne : some g ≠ row) : IsS75 w0 W1 g f0 f1 := by
 obtain ⟨A0, c0, hb, hg, hr0⟩ := h
 exact ⟨A0, c0, blk_grown hb hw hne, hg, hr0⟩
theorem IsS75.own_neN {w0 W : World} {g : Nat} {f0 : List Int} {f1 : Bool} {α : Type} {d : Kd α} {e : Nat} {base : Nat} {ok : Nat → Prop} {v : Value} {xs : List α} (h : IsS75 w0 W g f0 f1) (ho : Kd.N d e W base ok v xs) (ht : e ≠ 75) : some g ≠ v.ownBlock := by
 obtain ⟨A0, c0, hb, hg, hr0⟩ := h
 exact Kd.N_ne ho hb ht
theorem IsS75.fresh {w0 W : World} {g : Nat} {f0 : List Int} {f1 : Bool} (h : IsS75 w0 W g f0 f1) : ∀ k, W.heap.size ≤ k → k ≠ g := by
 obtain ⟨A0, c0, hb, hg, hr0⟩ := h
 exact Kd.freshB hb
theorem IsS75.kept {w0 W : World} {g : Nat} {f0 : List Int} {f1 : Bool} {W1 : World} {S : Nat → Prop} (h : IsS75 w0 W g f0 f1) (hk : Kept W W1 S) (hne : ¬ S g) : IsS75 w0 W1 g f0 f1 := by
 obtain ⟨A0, c0, hb, hg, hr0⟩ := h
 exact ⟨A0, c0, blk_kept hb hk hne, hg, hr0⟩
theorem IsS75.below {w0 W : World} {g : Nat} {f0 : List Int} {f1 : Bool} {W1 : World} (h : IsS75 w0 W g f0 f1) (hw : Below W.heap.size W W1) : IsS75 w0 W1 g f0 f1 := h.grown (grown_of_below hw none) (by simp)
theorem IsS75.alloc {w0 W : World} {g : Nat} {f0 : List Int} {f1 : Bool} (h : IsS75 w0 W g f0 f1) (o : Obj) : IsS75 w0 (W.alloc o) g f0 f1 := h.below (below_alloc (Below.refl _ _) o)
theorem IsS75.drewN {w0 W : World} {g : Nat} {f0 : List Int} {f1 : Bool} (h : IsS75 w0 W g f0 f1) (m : Nat) : IsS75 w0 (W.drewN m) g f0 f1 := h
theorem IsS75.drew {w0 W : World} {g : Nat} {f0 : List Int} {f1 : Bool} (h : IsS75 w0 W g f0 f1) : IsS75 w0 W.drew g f0 f1 := h
theorem IsS75.at_ {w0 W : World} {g : Nat} {f0 : List Int} {f1 : Bool} {w' : World} {m : Nat} (hq : W.drewN m = w') (h : IsS75 w0 W g f0 f1) : IsS75 w0 w' g f0 f1 := by subst hq; exact IsS75.drewN h m
theorem IsS75.apart {w0 W : World} {g : Nat} {f0 : List Int} {f1 : Bool} {α : Type} {d : Kd α} {e : Nat} {base : Nat} {ok : Nat → Prop} {v : Value} {xs : List α} (h : IsS75 w0 W g f0 f1) (ho : d.R e W base ok v xs) (ht : ∀ q, q ∈ e :: d.E → q ≠ 75) : d.R e W base (fun k => ok k ∧ k ≠ g) v xs := by
 obtain ⟨A0, c0, hb, hg, hr0⟩ := h
 exact Kd.R_types ho hb ht
theorem IsS75.own_ne {w0 W : World} {g : Nat} {f0 : List Int} {f1 : Bool} {α : Type} {d : Kd α} {e : Nat} {base : Nat} {ok : Nat → Prop} {v : Value} {xs : List α} (h : IsS75 w0 W g f0 f1) (ho : d.R e W base ok v xs) (ht : e ≠ 75) : some g ≠ v.ownBlock := by
 obtain ⟨A0, c0, hb, hg, hr0⟩ := h
 exact Kd.R_ne ho hb ht
theorem IsS75.apartQ {w0 W : World} {g : Nat} {f0 : List Int} {f1 : Bool} {α : Type} {d : Kd α} {e : Nat} {base : Nat} {ok : Nat → Prop} {v : Value} {xs : List α} (h : IsS75 w0 W g f0 f1) (ho : d.Q e W base ok v xs) (ht : ∀ q, q ∈ e :: d.E → q ≠ 75) : d.Q e W base (fun k => ok k ∧ k ≠ g) v xs := by
 obtain ⟨A0, c0, hb, hg, hr0⟩ := h
 exact Kd.Q_types ho hb ht
theorem IsS75.own_neQ {w0 W : World} {g : Nat} {f0 : List Int} {f1 : Bool} {α : Type} {d : Kd α} {e : Nat} {base : Nat} {ok : Nat → Prop} {v : Value} {xs : List α} (h : IsS75 w0 W g f0 f1) (ho : d.Q e W base ok v xs) (ht : e ≠ 75) : some g ≠ v.ownBlock := by
 obtain ⟨A0, c0, hb, hg, hr0⟩ := h
 exact Kd.Q_ne ho hb ht
theorem IsS75.apartS {w0 W : World} {g : Nat} {f0 : List Int} {f1 : Bool} {α : Type} {d : Kd α} {e : Nat} {base : Nat} {ok : Nat → Prop} {v : Value} {xs : List α} (h : IsS75 w0 W g f0 f1) (ho : d.S e W base ok v xs) (ht : ∀ q, q ∈ e :: d.E → q ≠ 75) : d.S e W base (fun k => ok k ∧ k ≠ g) v xs := by
 obtain ⟨A0, c0, hb, hg, hr0⟩ := h
 exact Kd.S_types ho hb ht
theorem IsS75.own_neS {w0 W : World} {g : Nat} {f0 : List Int} {f1 : Bool} {α : Type} {d : Kd α} {e : Nat} {base : Nat} {ok : Nat → Prop} {v : Value} {xs : List α} (h : IsS75 w0 W g f0 f1) (ho : d.S e W base ok v xs) (ht : e ≠ 75) : some g ≠ v.ownBlock := by
 obtain ⟨A0, c0, hb, hg, hr0⟩ := h
 exact Kd.S_ne ho hb ht
theorem IsS75.lt {w0 W : World} {g : Nat} {f0 : List Int} {f1 : Bool} (h : IsS75 w0 W g f0 f1) : g < W.heap.size := by
 obtain ⟨A0, c0, hb, hg, hr0⟩ := h
 exact blk_lt hb
theorem IsS75.ge {w0 W : World} {g : Nat} {f0 : List Int} {f1 : Bool} (h : IsS75 w0 W g f0 f1) : w0.heap.size ≤ g := by
 obtain ⟨A0, c0, hb, hg, hr0⟩ := h
 exact hg
theorem IsS75.ne_blk {w0 W : World} {g : Nat} {f0 : List Int} {f1 : Bool} {a : Nat} {cs : Array Value} {t : TypeId} {fr : Nat × Nat} (h : IsS75 w0 W g f0 f1) (hb2 : W.heap[a]? = some (.cells cs t fr)) (ht : t ≠ 75) : g ≠ a := by
 obtain ⟨A0, c0, hb, hg, hr0⟩ := h
 rintro rfl
 rw [hb] at hb2
 injection hb2 with hb2
 injection hb2 with _ ht2
 exact ht ht2.symm
theorem IsS75.far {w0 W : World} {g : Nat} {f0 : List Int} {f1 : Bool} {p : Addr} (h : IsS75 w0 W g f0 f1) (hne : g ≠ p.block) (u : Value) : IsS75 w0 (W.setCell p u) g f0 f1 := by
 obtain ⟨A0, c0, hb, hg, hr0⟩ := h
 exact ⟨A0, c0, blk_far hb hne u, hg, hr0⟩
theorem cellS75_0 {W : World} {g : Nat} {A0 : Option Addr} {c0 : Nat} {f0 : List Int} {f1 : Bool} (h : W.heap[g]? = some (.cells #[.slice A0 f0.length c0, .bool f1] 75 (0, 0))) : W.cell? ⟨g, 0, none⟩ = some (.slice A0 f0.length c0) := (blk_cell h 0).trans rfl
theorem cellS75_1 {W : World} {g : Nat} {A0 : Option Addr} {c0 : Nat} {f0 : List Int} {f1 : Bool} (h : W.heap[g]? = some (.cells #[.slice A0 f0.length c0, .bool f1] 75 (0, 0))) : W.cell? ⟨g, 1, none⟩ = some (.bool f1) := (blk_cell h 1).trans rfl
theorem IsS75.set_1 {w0 W : World} {g : Nat} {f0 : List Int} {f1 : Bool} (h : IsS75 w0 W g f0 f1) (x : Bool) : IsS75 w0 (W.setCell ⟨g, 1, none⟩ (.bool x)) g f0 x := by
 obtain ⟨A0, c0, hb, hg, hr0⟩ := h
 exact ⟨A0, c0, by simpa using blk_set hb 1 (.bool x), hg, hr0⟩
theorem IsS75.new (w0 W : World) (A0 : Option Addr) (c0 : Nat) (f0 : List Int) (f1 : Bool) (hB : Below w0.heap.size w0 W) (hr0 : (f0.length ≤ c0 ∧ Kd.C (Kd.int .u8) w0 A0 f0.length f0)) : IsS75 w0 (W.alloc (.cells #[.slice A0 f0.length c0, .bool f1] 75)) W.heap.size f0 f1 := ⟨A0, c0, by simpa using heap_alloc_new W _, hB.size, hr0⟩
theorem IsS75.setv_0 {w0 W : World} {g : Nat} {f0 : List Int} {f1 : Bool} (h : IsS75 w0 W g f0 f1) {A : Option Addr} {c : Nat} {l : List Int} (hn : l.length ≤ c ∧ Kd.C (Kd.int .u8) w0 A l.length l) : IsS75 w0 (W.setCell ⟨g, 0, none⟩ (.slice A l.length c)) g l f1 := by
 obtain ⟨A0, c0, hb, hg, hr0⟩ := h
 exact ⟨_, _, by simpa using blk_set hb 0 (.slice A l.length c), hg, hn⟩
theorem IsS75.setw_0 {w0 W : World} {g : Nat} {f0 : List Int} {f1 : Bool} (h : IsS75 w0 W g f0 f1) {A : Option Addr} {n c : Nat} {l : List Int} (hl : l.length = n) (hn : l.length ≤ c ∧ Kd.C (Kd.int .u8) w0 A l.length l) : IsS75 w0 (W.setCell ⟨g, 0, none⟩ (.slice A n c)) g l f1 := by
 subst hl
 exact h.setv_0 hn
def q_reader_byte.f (s0_0 : List Int) (s0_1 : Bool) : Option (Int × List Int × Bool) := some (wrap64 (s0_0.headD 0), s0_0.tail, s0_1 || s0_0.isEmpty)
set_option maxHeartbeats 4000000 in
theorem q_reader_byte.calls (g : Nat) (s0_0 : List Int) (s0_1 : Bool) (r1 : Int) (r2 : List Int) (r3 : Bool) (w0 w : World) (hI : IsS75 w0 w g s0_0 s0_1) (hB : Below w0.heap.size w0 w) (h : q_reader_byte.f s0_0 s0_1 = some (r1, r2, r3)) :
 Calls Try.prog 59 #[.pointer (some ⟨g, 0, none⟩)] w fun e w' => e = .returned (.int .i64 r1) ∧ IsS75 w0 w' g r2 r3 ∧ Below w0.heap.size w0 w' ∧ KeepBut w w' g none := by
 simp only [q_reader_byte.f, Option.some.injEq, Prod.mk.injEq] at h
 obtain ⟨rfl, rfl, rfl⟩ := h
 obtain ⟨A0, c0, hb, hg, hle, hr⟩ := hI
 cases s0_0 with
 | nil =>
  have hc0 : w.cell? ⟨g, 0, none⟩ = some (.slice A0 0 c0) := (blk_cell hb 0).trans rfl
  have hc1 : w.cell? ⟨g, 1, none⟩ = some (.bool s0_1) := (blk_cell hb 1).trans rfl
  have hf1 : w.frozen? ⟨g, 1, none⟩ = false := blk_frozen hb 1
  have A := Ak hb
  have A2 := Ak hr
  clear hb hr
  go_enter Try.func59, Try.ntmps59
  go_wp2
  go_ret
  refine ⟨by simp [wrap64], ?_, below_set hB hg, (KeepBut.refl _ _ _).set_ _ _⟩
  have := IsS75.set_1 (⟨A0, c0, A.out, hg, hle, A2.out⟩ : IsS75 w0 w g [] s0_1) true
  simpa using this
 | cons x l =>
  obtain ⟨b, off, rfl, hc⟩ := C_addr (z := 0) hr (by simp)
  have hx : w0.cell? ⟨b, off, none⟩ = some (.int .u8 x) := by simpa using hc 0 (by simp)
  have hx' : w.cell? ⟨b, off, none⟩ = some (.int .u8 x) := (hB.cell (World.block_lt_of_cell? _ _ hx)).trans hx
  have hc0 : w.cell? ⟨g, 0, none⟩ = some (.slice (some ⟨b, off, none⟩) (l.length + 1) c0) := (blk_cell hb 0).trans rfl
  have hf0 : w.frozen? ⟨g, 0, none⟩ = false := blk_frozen hb 0
  have hle' : l.length + 1 ≤ c0 := hle
  have A := Ak hb
  have A2 := Ak hr
  have A3 := Ak hc
  have A4 := Ak hx
  clear hb hr hc hx
  go_enter Try.func59, Try.ntmps59
  go_wp2
  ·rename_i h1
   go_ret
   obtain rfl : l = [] := List.eq_nil_of_length_eq_zero (by omega)
   refine ⟨by simp, ?_, below_set hB hg, (KeepBut.refl _ _ _).set_ _ _⟩
   refine ⟨some ⟨b, off, none⟩, 0, by simpa using blk_set A.out 0 _, hg, Nat.le_refl _, ?_⟩
   exact Kd.C_of_reads (d := 0) ⟨rfl, by simp, fun h => absurd h (by simp)⟩
  ·rename_i h1
   go_ret
   refine ⟨by simp, ?_, below_set hB hg, (KeepBut.refl _ _ _).set_ _ _⟩
   refine ⟨some ⟨b, off + 1, none⟩, c0 - 1, by simpa using blk_set A.out 0 _, hg, by omega, ?_⟩
   exact C_from (xs := x :: l) A2.out.2.1 A3.out 1
def q_reader_count.l0 : Nat → Int → Int → List Int → Bool → Option (Int × List Int × Bool)
 | 0, _, _, _, _ => none
 | k + 1, x3, x4, x1000, x1001 => if x4 < 56 then ((q_reader_byte.f x1000 x1001).bind fun bt565 => (if 0 ≤ x4 then (if bt565.1 < 128 then (some (Go.bits .or .i64 x3 (shl .i64 (Go.bits .and .i64 bt565.1 127) x4), bt565.2.1, bt565.2.2)) else (if bt565.2.2 = true then (some (Go.bits .or .i64 x3 (shl .i64 (Go.bits .and .i64 bt565.1 127) x4), bt565.2.1, bt565.2.2)) else (q_reader_count.l0 k (Go.bits .or .i64 x3 (shl .i64 (Go.bits .and .i64 bt565.1 127) x4)) (wrap64 (x4 + 7)) bt565.2.1 bt565.2.2))) else (none))) else (some (0, x1000, true))
def q_reader_count.f (k : Nat) (s0_0 : List Int) (s0_1 : Bool) : Option (Int × List Int × Bool) := q_reader_count.l0 k 0 0 s0_0 s0_1
theorem q_reader_count.mono_l : ∀ k, (∀ y0 y1 y2 y3, LeO (q_reader_count.l0 k y0 y1 y2 y3) (q_reader_count.l0 (k + 1) y0 y1 y2 y3))
 | 0 => fun _ _ _ _ r h => by simp [q_reader_count.l0] at h
 | k + 1 => by
  have ih0 := q_reader_count.mono_l k
  ·intro y0 y1 y2 y3
   unfold q_reader_count.l0
   repeat' first
   | (with_reducible exact ih0 _ _ _ _)
   | (with_reducible exact LeO.refl _)
   | (with_reducible refine LeO.ite ?_ ?_)
   | (with_reducible refine LeO.bind ?_ (fun _ => ?_))
theorem q_reader_count.mono : ∀ a0 a1 k, LeO (q_reader_count.f k a0 a1) (q_reader_count.f (k + 1) a0 a1) := by
 intro a0 a1 k
 have ih0 := q_reader_count.mono_l k
 unfold q_reader_count.f
 repeat' first
  | (with_reducible exact ih0 _ _ _ _)
set_option maxHeartbeats 8000000 in
set_option maxRecDepth 100000 in
theorem q_reader_count.calls (k : Nat) (g : Nat) (s0_0 : List Int) (s0_1 : Bool) (r1 : Int) (r2 : List Int) (r3 : Bool) (w0 w : World) (hI : IsS75 w0 w g s0_0 s0_1) (hB : Below w0.heap.size w0 w) (h : q_reader_count.f k s0_0 s0_1 = some (r1, r2, r3)) :
 Calls Try.prog 60 #[.pointer (some ⟨g, 0, none⟩)] w fun e w' => e = .returned (.int .i64 r1) ∧ IsS75 w0 w' g r2 r3 ∧ Below w0.heap.size w0 w' ∧ KeepBut w w' g none := by
 have HI0 := Ak hI
 have HK := Ak (KeepBut.refl w g none)
 have HL := Ak hB.size
 clear hI
 have HW0 := Ak hB.size
 have HB := Ak hB
 have HBZ := Ak hB
 clear hB
 have H : (q_reader_count.l0 k 0 0 s0_0 s0_1) = some (r1, r2, r3) := h
 clear h
 have H' := Ak H
 clear H
 go_enter Try.func60, Try.ntmps60
 go_wp2
 go_loopg [3, 4] k (fun kq v3 v4 w' => ∃ (x3_1 : Int) (x4_1 : Int) (x1000_1 : List Int) (x1001_1 : Bool), v3 = .int .i64 x3_1 ∧ v4 = .int .i64 x4_1 ∧ Aside0 (q_reader_count.l0 kq x3_1 x4_1 x1000_1 x1001_1 = some (r1, r2, r3)) ∧ Aside0 (kq ≤ k) ∧ Aside0 (IsS75 w0 w' g x1000_1 x1001_1) ∧ Aside0 (KeepBut w w' g none) ∧ Aside0 (Below w0.heap.size w0 w'))
 case atStart => exact ⟨(0), (0), (s0_0), (s0_1), (by rfl), (by rfl), H', ⟨Nat.le_refl _⟩, ⟨by exact HI0.out⟩, ⟨by exact HK.out⟩, ⟨by exact HB.out⟩⟩
 case round =>
  clear H'
  obtain ⟨x3_1, x4_1, x1000_1, x1001_1, rfl, rfl, HA, HK1, HI0, HK, HB⟩ := hrel
  cases gk with
  | zero => exact absurd HA.out (by simp [q_reader_count.l0])
  | succ k1 =>
   have H := HA.out
   clear HA
   simp only [q_reader_count.l0] at H
   by_cases c2 : x4_1 < 56
   ·rw [if_pos c2] at H
    have c2b0 : decide (x4_1 < 56) = true := decide_eq_true c2
    clear c2
    replace H := Option.bind_eq_some_iff.mp H
    obtain ⟨⟨t565, t566, t567⟩, A30, H⟩ := H
    replace H : (if 0 ≤ x4_1 then (if t565 < 128 then (some (Go.bits .or .i64 x3_1 (shl .i64 (Go.bits .and .i64 t565 127) x4_1), t566, t567)) else (if t567 = true then (some (Go.bits .or .i64 x3_1 (shl .i64 (Go.bits .and .i64 t565 127) x4_1), t566, t567)) else (q_reader_count.l0 k1 (Go.bits .or .i64 x3_1 (shl .i64 (Go.bits .and .i64 t565 127) x4_1)) (wrap64 (x4_1 + 7)) t566 t567))) else (none)) = some (r1, r2, r3) := H
    have A3 := Ak A30
    clear A30
    by_cases c4 : 0 ≤ x4_1
    ·rw [if_pos c4] at H
     have c4b0 := eq_true c4
     have c4b1 : decide (0 ≤ x4_1) = true := decide_eq_true c4
     clear c4
     obtain ⟨ji5, hji5⟩ : ∃ j_ : Int, (shl .i64 (Go.bits .and .i64 t565 127) x4_1) = j_ := ⟨_, rfl⟩
     replace H : (if t565 < 128 then (some (Go.bits .or .i64 x3_1 (ji5), t566, t567)) else (if t567 = true then (some (Go.bits .or .i64 x3_1 (ji5), t566, t567)) else (q_reader_count.l0 k1 (Go.bits .or .i64 x3_1 (ji5)) (wrap64 (x4_1 + 7)) t566 t567))) = some (r1, r2, r3) := by (rw [hji5] at H; exact H)
     (try rw [hji5] at A3)
     have hji5_ : (IntKind.i64.wrap ((Go.bits .and .i64 t565 127) * 2 ^ min x4_1.toNat 64)) = ji5 := hji5
     have hji5z : x4_1 ≤ 64 → (IntKind.i64.wrap ((Go.bits .and .i64 t565 127) * 2 ^ x4_1.toNat)) = ji5 := shl_small hji5
     have hji5y : (wrap64 ((Go.bits .and .i64 t565 127) * 2 ^ min x4_1.toNat 64)) = ji5 := (i64_w _).symm.trans hji5_
     have hji5x : x4_1 ≤ 64 → (wrap64 ((Go.bits .and .i64 t565 127) * 2 ^ x4_1.toNat)) = ji5 := fun h_ => (i64_w _).symm.trans (hji5z h_)
     by_cases c6 : t565 < 128
     ·rw [if_pos c6] at H
      have c6b0 : decide (t565 < 128) = true := decide_eq_true c6
      clear c6
      simp only [Option.some.injEq, Prod.mk.injEq] at H
      obtain ⟨rfl, rfl, rfl⟩ := H
      go_wp2_with (first | ((with_reducible refine gate_callee (f := 59) rfl ?_); refine goesL_ (some 11) rfl rfl Try.func59 (by kernel_rfl) rfl #[.pointer (some ⟨g, 0, none⟩)] rfl (by (try simp only [lm]); rfl) ?_; (with_reducible refine (q_reader_byte.calls g x1000_1 x1001_1 t565 t566 t567 w0 _ ?side1 ?side2 A3.out).mono ?_); (case side1 => exact HI0.out); (case side2 => exact HB.out); rintro e w7 ⟨rfl, hi, hb, hk⟩; refine ⟨_, rfl, ?_⟩; have n0_ := Ak (KeepBut.trans (by exact HK.out) hk (.inl rfl)); have n1_ := Ak (hb); have n2_ := Ak (hi); clear HK HB HI0; have HK := n0_; have HB := n1_; have HI0 := n2_; clear n0_ n1_ n2_; (try clear hb); (try clear hk); (try clear hi)))
      go_ret
      exact ⟨by rfl, by exact HI0.out, by exact HB.out, by exact HK.out⟩
     ·rw [if_neg c6] at H
      have c6b0 : decide (t565 < 128) = false := decide_eq_false c6
      clear c6
      by_cases c8 : t567 = true
      ·subst c8
       replace H : (some (Go.bits .or .i64 x3_1 (ji5), t566, true)) = some (r1, r2, r3) := by rw [if_pos rfl] at H; exact H
       simp only [Option.some.injEq, Prod.mk.injEq] at H
       obtain ⟨rfl, rfl, rfl⟩ := H
       go_wp2_with (first | ((with_reducible refine gate_callee (f := 59) rfl ?_); refine goesL_ (some 11) rfl rfl Try.func59 (by kernel_rfl) rfl #[.pointer (some ⟨g, 0, none⟩)] rfl (by (try simp only [lm]); rfl) ?_; (with_reducible refine (q_reader_byte.calls g x1000_1 x1001_1 t565 t566 true w0 _ ?side1 ?side2 A3.out).mono ?_); (case side1 => exact HI0.out); (case side2 => exact HB.out); rintro e w9 ⟨rfl, hi, hb, hk⟩; refine ⟨_, rfl, ?_⟩; have n0_ := Ak (KeepBut.trans (by exact HK.out) hk (.inl rfl)); have n1_ := Ak (hb); have n2_ := Ak (hi); clear HK HB HI0; have HK := n0_; have HB := n1_; have HI0 := n2_; clear n0_ n1_ n2_; (try clear hb); (try clear hk); (try clear hi); obtain ⟨ASz10_0, cSz10_0, HGz10, hgz10, HSz10_0⟩ := HI0.out; have hcz10_0 := cellS75_0 HGz10; have hcz10_1 := cellS75_1 HGz10; have hfz10_0 := blk_frozen HGz10 0; have hfz10_1 := blk_frozen HGz10 1; have HCSz10_0 := HSz10_0.1; replace HSz10_0 := HSz10_0.2; clear HGz10 hgz10))
       go_ret
       exact ⟨by rfl, by exact HI0.out, by exact HB.out, by exact HK.out⟩
      ·replace c8 := Bool.eq_false_iff.mpr c8
       subst c8
       replace H : (q_reader_count.l0 k1 (Go.bits .or .i64 x3_1 (ji5)) (wrap64 (x4_1 + 7)) t566 false) = some (r1, r2, r3) := by rw [if_neg (show ¬ (false = true) by decide)] at H; exact H
       have H' := Ak H
       clear H
       go_wp2_with (first | ((with_reducible refine gate_callee (f := 59) rfl ?_); refine goesL_ (some 11) rfl rfl Try.func59 (by kernel_rfl) rfl #[.pointer (some ⟨g, 0, none⟩)] rfl (by (try simp only [lm]); rfl) ?_; (with_reducible refine (q_reader_byte.calls g x1000_1 x1001_1 t565 t566 false w0 _ ?side1 ?side2 A3.out).mono ?_); (case side1 => exact HI0.out); (case side2 => exact HB.out); rintro e w11 ⟨rfl, hi, hb, hk⟩; refine ⟨_, rfl, ?_⟩; have n0_ := Ak (KeepBut.trans (by exact HK.out) hk (.inl rfl)); have n1_ := Ak (hb); have n2_ := Ak (hi); clear HK HB HI0; have HK := n0_; have HB := n1_; have HI0 := n2_; clear n0_ n1_ n2_; (try clear hb); (try clear hk); (try clear hi); obtain ⟨ASz12_0, cSz12_0, HGz12, hgz12, HSz12_0⟩ := HI0.out; have hcz12_0 := cellS75_0 HGz12; have hcz12_1 := cellS75_1 HGz12; have hfz12_0 := blk_frozen HGz12 0; have hfz12_1 := blk_frozen HGz12 1; have HCSz12_0 := HSz12_0.1; replace HSz12_0 := HSz12_0.2; clear HGz12 hgz12))
       go_roundg k1
       case measure => have := HK1.out; omega
       case rel => exact ⟨(Go.bits .or .i64 x3_1 (ji5)), (wrap64 (x4_1 + 7)), (t566), (false), (by rfl), (by rfl), H', ⟨by have := HK1.out; omega⟩, ⟨by exact HI0.out⟩, ⟨by exact HK.out⟩, ⟨by exact HB.out⟩⟩
    ·rw [if_neg c4] at H
     exact absurd H (by simp)
   ·rw [if_neg c2] at H
    have c2b0 : decide (x4_1 < 56) = false := decide_eq_false c2
    clear c2
    simp only [Option.some.injEq, Prod.mk.injEq] at H
    obtain ⟨rfl, rfl, rfl⟩ := H
    obtain ⟨ASz13_0, cSz13_0, HGz13, hgz13, HSz13_0⟩ := HI0.out
    have hcz13_0 := cellS75_0 HGz13
    have hcz13_1 := cellS75_1 HGz13
    have hfz13_0 := blk_frozen HGz13 0
    have hfz13_1 := blk_frozen HGz13 1
    have HCSz13_0 := HSz13_0.1
    replace HSz13_0 := HSz13_0.2
    clear HGz13 hgz13
    go_wp2
    go_ret
    exact ⟨by rfl, by repeat ((with_reducible first | exact HI0.out | apply IsS75.set_1)), by repeat ((with_reducible first | exact HB.out | refine below_set ?_ (IsS75.ge HI0.out))), by repeat ((with_reducible first | exact HK.out | apply KeepBut.set_ ))⟩
def q_reader_number.f (k : Nat) (s0_0 : List Int) (s0_1 : Bool) : Option (Int × List Int × Bool) := (q_reader_count.f k s0_0 s0_1).bind fun bt568 => (if (Int.tmod bt568.1 2) = 1 then (some (wrap64 (Int.tdiv (wrap64 (-(wrap64 (bt568.1 + 1)))) 2), bt568.2.1, bt568.2.2)) else (some (wrap64 (Int.tdiv bt568.1 2), bt568.2.1, bt568.2.2)))
theorem q_reader_number.mono : ∀ a0 a1 k, LeO (q_reader_number.f k a0 a1) (q_reader_number.f (k + 1) a0 a1) := by
 intro a0 a1 k
 unfold q_reader_number.f
 repeat' first
  | (with_reducible exact q_reader_count.mono _ _ _)
  | (with_reducible exact LeO.refl _)
  | (with_reducible refine LeO.bind ?_ (fun _ => ?_))
set_option maxHeartbeats 8000000 in
set_option maxRecDepth 100000 in
theorem q_reader_number.calls (k : Nat) (g : Nat) (s0_0 : List Int) (s0_1 : Bool) (r1 : Int) (r2 : List Int) (r3 : Bool) (w0 w : World) (hI : IsS75 w0 w g s0_0 s0_1) (hB : Below w0.heap.size w0 w) (h : q_reader_number.f k s0_0 s0_1 = some (r1, r2, r3)) :
 Calls Try.prog 86 #[.pointer (some ⟨g, 0, none⟩)] w fun e w' => e = .returned (.int .i64 r1) ∧ IsS75 w0 w' g r2 r3 ∧ Below w0.heap.size w0 w' ∧ KeepBut w w' g none := by
 have HI0 := Ak hI
 have HK := Ak (KeepBut.refl w g none)
 have HL := Ak hB.size
 clear hI
 have HW0 := Ak hB.size
 have HB := Ak hB
 have HBZ := Ak hB
 clear hB
 have H : ((q_reader_count.f k s0_0 s0_1).bind fun bt568 => (if (Int.tmod bt568.1 2) = 1 then (some (wrap64 (Int.tdiv (wrap64 (-(wrap64 (bt568.1 + 1)))) 2), bt568.2.1, bt568.2.2)) else (some (wrap64 (Int.tdiv bt568.1 2), bt568.2.1, bt568.2.2)))) = some (r1, r2, r3) := h
 clear h
 replace H := Option.bind_eq_some_iff.mp H
 obtain ⟨⟨t568, t569, t570⟩, A20, H⟩ := H
 replace H : (if (Int.tmod t568 2) = 1 then (some (wrap64 (Int.tdiv (wrap64 (-(wrap64 (t568 + 1)))) 2), t569, t570)) else (some (wrap64 (Int.tdiv t568 2), t569, t570))) = some (r1, r2, r3) := H
 have A2 := Ak A20
 clear A20
 by_cases c3 : (Int.tmod t568 2) = 1
 ·rw [if_pos c3] at H
  have c3b0 : ((Int.tmod t568 2) == 1) = true := beq_iff_eq.mpr c3
  have c3b1 : ((Int.tmod t568 2) != 1) = false := bne_eq_false_iff_eq.mpr c3
  clear c3
  simp only [Option.some.injEq, Prod.mk.injEq] at H
  obtain ⟨rfl, rfl, rfl⟩ := H
  go_enter Try.func86, Try.ntmps86
  go_wp2_with (first | ((with_reducible refine gate_callee (f := 60) rfl ?_); refine goesL_ (some 5) rfl rfl Try.func60 (by kernel_rfl) rfl #[.pointer (some ⟨g, 0, none⟩)] rfl (by (try simp only [lm]); rfl) ?_; (with_reducible refine (q_reader_count.calls k g s0_0 s0_1 t568 t569 t570 w0 _ ?side1 ?side2 A2.out).mono ?_); (case side1 => exact HI0.out); (case side2 => exact HB.out); rintro e w4 ⟨rfl, hi, hb, hk⟩; refine ⟨_, rfl, ?_⟩; have n0_ := Ak (KeepBut.trans (by exact HK.out) hk (.inl rfl)); have n1_ := Ak (hb); have n2_ := Ak (hi); clear HK HB HI0; have HK := n0_; have HB := n1_; have HI0 := n2_; clear n0_ n1_ n2_; (try clear hb); (try clear hk); (try clear hi)))
  go_ret
  exact ⟨by rfl, by exact HI0.out, by exact HB.out, by exact HK.out⟩
 ·rw [if_neg c3] at H
  have c3b0 : ((Int.tmod t568 2) == 1) = false := beq_eq_false_iff_ne.mpr c3
  have c3b1 : ((Int.tmod t568 2) != 1) = true := bne_iff_ne.mpr c3
  simp only [Option.some.injEq, Prod.mk.injEq] at H
  obtain ⟨rfl, rfl, rfl⟩ := H
  go_enter Try.func86, Try.ntmps86
  go_wp2_with (first | ((with_reducible refine gate_callee (f := 60) rfl ?_); refine goesL_ (some 5) rfl rfl Try.func60 (by kernel_rfl) rfl #[.pointer (some ⟨g, 0, none⟩)] rfl (by (try simp only [lm]); rfl) ?_; (with_reducible refine (q_reader_count.calls k g s0_0 s0_1 t568 t569 t570 w0 _ ?side1 ?side2 A2.out).mono ?_); (case side1 => exact HI0.out); (case side2 => exact HB.out); rintro e w5 ⟨rfl, hi, hb, hk⟩; refine ⟨_, rfl, ?_⟩; have n0_ := Ak (KeepBut.trans (by exact HK.out) hk (.inl rfl)); have n1_ := Ak (hb); have n2_ := Ak (hi); clear HK HB HI0; have HK := n0_; have HB := n1_; have HI0 := n2_; clear n0_ n1_ n2_; (try clear hb); (try clear hk); (try clear hi)))
  go_ret
  exact ⟨by rfl, by exact HI0.out, by exact HB.out, by exact HK.out⟩
mutual
def q_reader_runs.l0 : Nat → Int → List Int → List Int → Bool → Option (List Int × List Int × Bool)
 | 0, _, _, _, _ => none
 | k + 1, x1, x5, x1000, x1001 => if (x5.length : Int) < x1 then (q_reader_runs.j1 k x1 x5 (!x1001) x1000 x1001) else (q_reader_runs.j1 k x1 x5 false x1000 x1001)
def q_reader_runs.j1 : Nat → Int → List Int → Bool → List Int → Bool → Option (List Int × List Int × Bool)
 | 0, _, _, _, _, _ => none
 | k + 1, x1, x5, x18, x1000, x1001 => if x18 = true then ((q_reader_number.f k x1000 x1001).bind fun bt571 => ((q_reader_count.f k bt571.2.1 bt571.2.2).bind fun bt574 => (if bt574.1 < 1 then (q_reader_runs.j2 k x1 x5 bt571.1 bt574.1 true bt574.2.1 bt574.2.2) else (q_reader_runs.j2 k x1 x5 bt571.1 bt574.1 (decide (bt574.1 > (wrap64 (x1 - (x5.length : Int))))) bt574.2.1 bt574.2.2)))) else (some (x5, x1000, x1001))
def q_reader_runs.j2 : Nat → Int → List Int → Int → Int → Bool → List Int → Bool → Option (List Int × List Int × Bool)
 | 0, _, _, _, _, _, _, _ => none
 | k + 1, x1, x5, x6, x7, x32, x1000, x1001 => if x32 = true then (some (([] : List Int), x1000, true)) else (q_reader_runs.l1 k x1 x5 x6 x7 0 x1000 x1001)
def q_reader_runs.l1 : Nat → Int → List Int → Int → Int → Int → List Int → Bool → Option (List Int × List Int × Bool)
 | 0, _, _, _, _, _, _, _ => none
 | k + 1, x1, x5, x6, x36, x37, x1000, x1001 => if x37 < x36 then (if x5.length < 17592186044416 then (q_reader_runs.l1 k x1 (x5 ++ [x6]) x6 x36 (wrap64 (x37 + 1)) x1000 x1001) else (none)) else (q_reader_runs.l0 k x1 x5 x1000 x1001)
end
def q_reader_runs.f (k : Nat) (s0_0 : List Int) (s0_1 : Bool) (a1 : Int) : Option (List Int × List Int × Bool) := q_reader_runs.l0 k a1 ([] : List Int) s0_0 s0_1
theorem q_reader_runs.mono_l : ∀ k, (∀ y0 y1 y2 y3, LeO (q_reader_runs.l0 k y0 y1 y2 y3) (q_reader_runs.l0 (k + 1) y0 y1 y2 y3)) ∧ (∀ y0 y1 y2 y3 y4, LeO (q_reader_runs.j1 k y0 y1 y2 y3 y4) (q_reader_runs.j1 (k + 1) y0 y1 y2 y3 y4)) ∧ (∀ y0 y1 y2 y3 y4 y5 y6, LeO (q_reader_runs.j2 k y0 y1 y2 y3 y4 y5 y6) (q_reader_runs.j2 (k + 1) y0 y1 y2 y3 y4 y5 y6)) ∧ (∀ y0 y1 y2 y3 y4 y5 y6, LeO (q_reader_runs.l1 k y0 y1 y2 y3 y4 y5 y6) (q_reader_runs.l1 (k + 1) y0 y1 y2 y3 y4 y5 y6))
 | 0 => ⟨fun _ _ _ _ r h => by simp [q_reader_runs.l0] at h, fun _ _ _ _ _ r h => by simp [q_reader_runs.j1] at h, fun _ _ _ _ _ _ _ r h => by simp [q_reader_runs.j2] at h, fun _ _ _ _ _ _ _ r h => by simp [q_reader_runs.l1] at h⟩
 | k + 1 => by
  obtain ⟨ih0, ih1, ih2, ih3⟩ := q_reader_runs.mono_l k
  refine ⟨?_, ?_, ?_, ?_⟩ <;> intros
  all_goals (first | unfold q_reader_runs.l0 | unfold q_reader_runs.j1 | unfold q_reader_runs.j2 | unfold q_reader_runs.l1)
  all_goals
   repeat' first
   | (with_reducible exact ih0 _ _ _ _)
   | (with_reducible exact ih1 _ _ _ _ _)
   | (with_reducible exact ih2 _ _ _ _ _ _ _)
   | (with_reducible exact ih3 _ _ _ _ _ _ _)
   | (with_reducible exact q_reader_count.mono _ _ _)
   | (with_reducible exact q_reader_number.mono _ _ _)
   | (with_reducible exact LeO.refl _)
   | (with_reducible refine LeO.ite ?_ ?_)
   | (with_reducible refine LeO.bind ?_ (fun _ => ?_))
theorem q_reader_runs.mono : ∀ a0 a1 a2 k, LeO (q_reader_runs.f k a0 a1 a2) (q_reader_runs.f (k + 1) a0 a1 a2) := by
 intro a0 a1 a2 k
 obtain ⟨ih0, ih1, ih2, ih3⟩ := q_reader_runs.mono_l k
 unfold q_reader_runs.f
 repeat' first
  | (with_reducible exact ih0 _ _ _ _)
set_option maxHeartbeats 8000000 in
set_option maxRecDepth 100000 in
theorem q_reader_runs.calls (k : Nat) (g : Nat) (s0_0 : List Int) (s0_1 : Bool) (a1 : Int) (r1 : List Int) (r2 : List Int) (r3 : Bool) (w0 w : World) (hI : IsS75 w0 w g s0_0 s0_1) (hB : Below w0.heap.size w0 w) (h : q_reader_runs.f k s0_0 s0_1 a1 = some (r1, r2, r3)) :
 Calls Try.prog 87 #[.pointer (some ⟨g, 0, none⟩), .int .i64 a1] w fun e w' => ∃ v0_ : Value, e = .returned (v0_) ∧ Kd.R (Kd.int .i64) 3 w' w.heap.size (fun _ => True) v0_ r1 ∧ IsS75 w0 w' g r2 r3 ∧ Below w0.heap.size w0 w' ∧ KeepBut w w' g none := by
 have HI0 := Ak hI
 have HK := Ak (KeepBut.refl w g none)
 have HL := Ak hB.size
 clear hI
 have HW0 := Ak hB.size
 have HB := Ak hB
 have HBZ := Ak hB
 clear hB
 have H : (q_reader_runs.l0 k a1 ([] : List Int) s0_0 s0_1) = some (r1, r2, r3) := h
 clear h
 have H' := Ak H
 clear H
 go_enter Try.func87, Try.ntmps87
 go_wp2
 go_loopg [5] k (fun kq v5 w' => ∃ (x5_1 : List Int) (x1000_1 : List Int) (x1001_1 : Bool), Aside0 (q_reader_runs.l0 kq a1 x5_1 x1000_1 x1001_1 = some (r1, r2, r3)) ∧ Aside0 (kq ≤ k) ∧ Aside0 (Kd.R (Kd.int .i64) 3 w' w.heap.size (fun _ => True) v5 x5_1) ∧ Aside0 (IsS75 w0 w' g x1000_1 x1001_1) ∧ Aside0 (KeepBut w w' g none) ∧ Aside0 (Below w0.heap.size w0 w'))
 case atStart => exact ⟨(([] : List Int)), (s0_0), (s0_1), H', ⟨Nat.le_refl _⟩, ⟨by exact Kd.R_nil _ _ _ _ _⟩, ⟨by exact HI0.out⟩, ⟨by exact HK.out⟩, ⟨by exact HB.out⟩⟩
 case round =>
  clear H'
  obtain ⟨x5_1, x1000_1, x1001_1, HA, HK1, HO_5, HI0, HK, HB⟩ := hrel
  cases gk with
  | zero => exact absurd HA.out (by simp [q_reader_runs.l0])
  | succ k1 =>
   have H := HA.out
   clear HA
   simp only [q_reader_runs.l0] at H
   have HC3 := Ak H
   clear H
   go_upto_region 2 with (fail)
   go_cut [18] (fun v18 wc => ∃ (kq : Nat) (x18_2 : Bool), v18 = .bool x18_2 ∧ Aside0 (q_reader_runs.j1 kq a1 x5_1 x18_2 x1000_1 x1001_1 = some (r1, r2, r3)) ∧ Aside0 (kq ≤ k1) ∧ Aside0 (Kd.R (Kd.int .i64) 3 wc w.heap.size (fun _ => True) u5 x5_1) ∧ Aside0 (IsS75 w0 wc g x1000_1 x1001_1) ∧ Aside0 (KeepBut w wc g none) ∧ Aside0 (Below w0.heap.size w0 wc))
   case first =>
    have H := HC3.out
    clear HC3
    by_cases c4 : (x5_1.length : Int) < a1
    ·rw [if_pos c4] at H
     have c4b0 : decide ((x5_1.length : Int) < a1) = true := decide_eq_true c4
     clear c4
     (skip)
     (try rw [c4b1])
     have H' := Ak H
     clear H
     obtain ⟨Ao5, co5, eo5⟩ := Kd.R_slice HO_5.out
     subst eo5
     obtain ⟨ASz6_0, cSz6_0, HGz6, hgz6, HSz6_0⟩ := HI0.out
     have hcz6_0 := cellS75_0 HGz6
     have hcz6_1 := cellS75_1 HGz6
     have hfz6_0 := blk_frozen HGz6 0
     have hfz6_1 := blk_frozen HGz6 1
     have HCSz6_0 := HSz6_0.1
     replace HSz6_0 := HSz6_0.2
     clear HGz6 hgz6
     go_wp2
     go_meet
     case rel => exact ⟨_, (!x1001_1), (by rfl), H', ⟨by have := HK1.out; omega⟩, ⟨by exact HO_5.out⟩, ⟨by exact HI0.out⟩, ⟨by exact HK.out⟩, ⟨by exact HB.out⟩⟩
    ·rw [if_neg c4] at H
     have c4b0 : decide ((x5_1.length : Int) < a1) = false := decide_eq_false c4
     clear c4
     (skip)
     (try rw [c4b1])
     have H' := Ak H
     clear H
     obtain ⟨Ao7, co7, eo7⟩ := Kd.R_slice HO_5.out
     subst eo7
     go_wp2
     go_meet
     case rel => exact ⟨_, (false), (by rfl), H', ⟨by have := HK1.out; omega⟩, ⟨by exact HO_5.out⟩, ⟨by exact HI0.out⟩, ⟨by exact HK.out⟩, ⟨by exact HB.out⟩⟩
   case rest =>
    clear HC3
    obtain ⟨kq, x18_2, rfl, HA, HJ2, HO_5, HI0, HK, HB⟩ := hcut
    cases kq with
    | zero => exact absurd HA.out (by simp [q_reader_runs.j1])
    | succ kj2 =>
     have H := HA.out
     clear HA
     simp only [q_reader_runs.j1] at H
     by_cases c8 : x18_2 = true
     ·subst c8
      replace H : ((q_reader_number.f kj2 x1000_1 x1001_1).bind fun bt571 => ((q_reader_count.f kj2 bt571.2.1 bt571.2.2).bind fun bt574 => (if bt574.1 < 1 then (q_reader_runs.j2 kj2 a1 x5_1 bt571.1 bt574.1 true bt574.2.1 bt574.2.2) else (q_reader_runs.j2 kj2 a1 x5_1 bt571.1 bt574.1 (decide (bt574.1 > (wrap64 (a1 - (x5_1.length : Int))))) bt574.2.1 bt574.2.2)))) = some (r1, r2, r3) := by rw [if_pos rfl] at H; exact H
      replace H := Option.bind_eq_some_iff.mp H
      obtain ⟨⟨t571, t572, t573⟩, A90, H⟩ := H
      replace H : ((q_reader_count.f kj2 t572 t573).bind fun bt574 => (if bt574.1 < 1 then (q_reader_runs.j2 kj2 a1 x5_1 t571 bt574.1 true bt574.2.1 bt574.2.2) else (q_reader_runs.j2 kj2 a1 x5_1 t571 bt574.1 (decide (bt574.1 > (wrap64 (a1 - (x5_1.length : Int))))) bt574.2.1 bt574.2.2))) = some (r1, r2, r3) := H
      have A9 := Ak A90
      clear A90
      replace H := Option.bind_eq_some_iff.mp H
      obtain ⟨⟨t574, t575, t576⟩, A100, H⟩ := H
      replace H : (if t574 < 1 then (q_reader_runs.j2 kj2 a1 x5_1 t571 t574 true t575 t576) else (q_reader_runs.j2 kj2 a1 x5_1 t571 t574 (decide (t574 > (wrap64 (a1 - (x5_1.length : Int))))) t575 t576)) = some (r1, r2, r3) := H
      have A10 := Ak A100
      clear A100
      have HC11 := Ak H
      clear H
      go_upto_region 4 with (first | ((with_reducible refine gate_callee (f := 86) rfl ?_); refine goesL_ (some 20) rfl rfl Try.func86 (by kernel_rfl) rfl #[.pointer (some ⟨g, 0, none⟩)] rfl (by (try simp only [lm]); rfl) ?_; (with_reducible refine (q_reader_number.calls kj2 g x1000_1 x1001_1 t571 t572 t573 w0 _ ?side1 ?side2 A9.out).mono ?_); (case side1 => exact HI0.out); (case side2 => exact HB.out); rintro e w12 ⟨rfl, hi, hb, hk⟩; refine ⟨_, rfl, ?_⟩; have n0_ := Ak (Kd.R_mono (Kd.R_keep (IsS75.apart (show IsS75 w0 _ g x1000_1 x1001_1 from by exact HI0.out) (by exact HO_5.out) (by decide)) hk (fun _ h => h.2)) (fun _ h => h.1)); have n1_ := Ak (KeepBut.trans (by exact HK.out) hk (.inl rfl)); have n2_ := Ak (hb); have n3_ := Ak (hi); clear HO_5 HK HB HI0; have HO_5 := n0_; have HK := n1_; have HB := n2_; have HI0 := n3_; clear n0_ n1_ n2_ n3_; (try clear hb); (try clear hk); (try clear hi)) | ((with_reducible refine gate_callee (f := 60) rfl ?_); refine goesL_ (some 22) rfl rfl Try.func60 (by kernel_rfl) rfl #[.pointer (some ⟨g, 0, none⟩)] rfl (by (try simp only [lm]); rfl) ?_; (with_reducible refine (q_reader_count.calls kj2 g t572 t573 t574 t575 t576 w0 _ ?side1 ?side2 A10.out).mono ?_); (case side1 => exact HI0.out); (case side2 => exact HB.out); rintro e w13 ⟨rfl, hi, hb, hk⟩; refine ⟨_, rfl, ?_⟩; have n0_ := Ak (Kd.R_mono (Kd.R_keep (IsS75.apart (show IsS75 w0 _ g t572 t573 from by exact HI0.out) (by exact HO_5.out) (by decide)) hk (fun _ h => h.2)) (fun _ h => h.1)); have n1_ := Ak (KeepBut.trans (by exact HK.out) hk (.inl rfl)); have n2_ := Ak (hb); have n3_ := Ak (hi); clear HO_5 HK HB HI0; have HO_5 := n0_; have HK := n1_; have HB := n2_; have HI0 := n3_; clear n0_ n1_ n2_ n3_; (try clear hb); (try clear hk); (try clear hi)))
      (try simp only [Act.put, List.setIfInBounds_toArray, List.set_cons_zero, List.set_cons_succ])
      go_cut [32] (fun v32 wc => ∃ (kq : Nat) (x32_10 : Bool), v32 = .bool x32_10 ∧ Aside0 (q_reader_runs.j2 kq a1 x5_1 t571 t574 x32_10 t575 t576 = some (r1, r2, r3)) ∧ Aside0 (kq ≤ kj2) ∧ Aside0 (Kd.R (Kd.int .i64) 3 wc w.heap.size (fun _ => True) u5 x5_1) ∧ Aside0 (IsS75 w0 wc g t575 t576) ∧ Aside0 (KeepBut w wc g none) ∧ Aside0 (Below w0.heap.size w0 wc))
      case first =>
       have H := HC11.out
       clear HC11
       by_cases c14 : t574 < 1
       ·rw [if_pos c14] at H
        have c14b0 : decide (t574 < 1) = true := decide_eq_true c14
        clear c14
        (skip)
        (try rw [c14b1])
        have H' := Ak H
        clear H
        go_wp2
        go_meet
        case rel => exact ⟨_, (true), (by rfl), H', ⟨by have := HK1.out; have := HJ2.out; omega⟩, ⟨by exact HO_5.out⟩, ⟨by exact HI0.out⟩, ⟨by exact HK.out⟩, ⟨by exact HB.out⟩⟩
       ·rw [if_neg c14] at H
        have c14b0 : decide (t574 < 1) = false := decide_eq_false c14
        clear c14
        (skip)
        (try rw [c14b1])
        have H' := Ak H
        clear H
        obtain ⟨Ao15, co15, eo15⟩ := Kd.R_slice HO_5.out
        subst eo15
        go_wp2
        go_meet
        case rel => exact ⟨_, (decide (t574 > (wrap64 (a1 - (x5_1.length : Int))))), (by rfl), H', ⟨by have := HK1.out; have := HJ2.out; omega⟩, ⟨by exact HO_5.out⟩, ⟨by exact HI0.out⟩, ⟨by exact HK.out⟩, ⟨by exact HB.out⟩⟩
      case rest =>
       clear HC11
       obtain ⟨kq, x32_10, rfl, HA, HJ10, HO_5, HI0, HK, HB⟩ := hcut
       cases kq with
       | zero => exact absurd HA.out (by simp [q_reader_runs.j2])
       | succ kj10 =>
        have H := HA.out
        clear HA
        simp only [q_reader_runs.j2] at H
        by_cases c16 : x32_10 = true
        ·subst c16
         replace H : (some (([] : List Int), t575, true)) = some (r1, r2, r3) := by rw [if_pos rfl] at H; exact H
         simp only [Option.some.injEq, Prod.mk.injEq] at H
         obtain ⟨rfl, rfl, rfl⟩ := H
         obtain ⟨ASz17_0, cSz17_0, HGz17, hgz17, HSz17_0⟩ := HI0.out
         have hcz17_0 := cellS75_0 HGz17
         have hcz17_1 := cellS75_1 HGz17
         have hfz17_0 := blk_frozen HGz17 0
         have hfz17_1 := blk_frozen HGz17 1
         have HCSz17_0 := HSz17_0.1
         replace HSz17_0 := HSz17_0.2
         clear HGz17 hgz17
         go_wp2
         go_ret
         exact ⟨_, by rfl, by exact Kd.R_nil _ _ _ _ _, by repeat ((with_reducible first | exact HI0.out | apply IsS75.set_1)), by repeat ((with_reducible first | exact HB.out | refine below_set ?_ (IsS75.ge HI0.out))), by repeat ((with_reducible first | exact HK.out | apply KeepBut.set_ ))⟩
        ·replace c16 := Bool.eq_false_iff.mpr c16
         subst c16
         replace H : (q_reader_runs.l1 kj10 a1 x5_1 t571 t574 0 t575 t576) = some (r1, r2, r3) := by rw [if_neg (show ¬ (false = true) by decide)] at H; exact H
         have H' := Ak H
         clear H
         go_wp2
         go_loopg [5, 37] kj10 (fun kq v5 v37 w' => ∃ (x5_4 : List Int) (x37_4 : Int), v37 = .int .i64 x37_4 ∧ Aside0 (q_reader_runs.l1 kq a1 x5_4 t571 t574 x37_4 t575 t576 = some (r1, r2, r3)) ∧ Aside0 (kq ≤ kj10) ∧ Aside0 (Kd.R (Kd.int .i64) 3 w' w.heap.size (fun _ => True) v5 x5_4) ∧ Aside0 (IsS75 w0 w' g t575 t576) ∧ Aside0 (KeepBut w w' g none) ∧ Aside0 (Below w0.heap.size w0 w'))
         case atStart => exact ⟨(x5_1), (0), (by rfl), H', ⟨Nat.le_refl _⟩, ⟨by exact HO_5.out⟩, ⟨by exact HI0.out⟩, ⟨by exact HK.out⟩, ⟨by exact HB.out⟩⟩
         case round =>
          clear H'
          obtain ⟨x5_4, x37_4, rfl, HA, HK4, HO_5, HI0, HK, HB⟩ := hrel
          cases gk with
          | zero => exact absurd HA.out (by simp [q_reader_runs.l1])
          | succ k4 =>
           have H := HA.out
           clear HA
           simp only [q_reader_runs.l1] at H
           by_cases c18 : x37_4 < t574
           ·rw [if_pos c18] at H
            have c18b0 : decide (x37_4 < t574) = true := decide_eq_true c18
            clear c18
            by_cases c19 : x5_4.length < 17592186044416
            ·rw [if_pos c19] at H
             have LMc19 := Ak c19
             clear c19
             obtain ⟨y577, hy577⟩ : ∃ y_ : List Int, y_ = (x5_4 ++ [t571]) := ⟨_, rfl⟩
             replace H : (q_reader_runs.l1 k4 a1 y577 t571 t574 (wrap64 (x37_4 + 1)) t575 t576) = some (r1, r2, r3) := by (rw [hy577]; with_reducible exact H)
             have Ny577 := Ak hy577
             clear hy577
             have H' := Ak H
             clear H
             go_wp2_with (first | ((with_reducible refine gate_builtin (b := .append) (xs := #[.tmp 39, .tmp 41]) rfl ?_); (try (refine gate_guard (by rfl) ?_; dsimp only)); at_builtin; refine Kd.R_append (Kd.int .i64) w.heap.size rfl (.tmp 39) (.tmp 41) 22 3 (.int .i64 0) 8 rfl Try.underlying22 info3 rfl (by decide) (by omega) u5 x5_4 t571 [.int .i64 t571] (fun _ => True) (fun _ => False) rfl rfl ?aP (fun _ hk => hk.elim) ?aF ?aO (Below.refl _ _) ?aS ?aL ?_; (case aP => exact rfl); (case aF => exact (fun _ _ => trivial)); (case aO => exact (by exact HO_5.out)); (case aS => exact (keep_size (w := w) (g := g) (row := none) (by exact HK.out))); (case aL => have := LMc19.out; omega); intro v578 w20 ho hb hg hat; rw [← Ny577.out] at ho; have n0_ := Ak (IsS75.grown (by exact HI0.out) hg (IsS75.own_ne HI0.out HO_5.out (by decide))); have n1_ := Ak (below_weaken (by exact HB.out) HL.out hb); have n2_ := Ak (KeepBut.trans (by exact HK.out) (KeepBut.of_grown hg g) (Kd.R_base2 HO_5.out)); have n3_ := Ak (ho); clear HI0 HB HK HO_5; have HI0 := n0_; have HB := n1_; have HK := n2_; have HO579 := n3_; clear n0_ n1_ n2_ n3_ ho hb hg hat))
             go_roundg k4
             case measure => have := HK1.out; have := HJ2.out; have := HJ10.out; have := HK4.out; omega
             case rel => exact ⟨(y577), (wrap64 (x37_4 + 1)), (by rfl), H', ⟨by have := HK1.out; have := HJ2.out; have := HJ10.out; have := HK4.out; omega⟩, ⟨by exact HO579.out⟩, ⟨by exact HI0.out⟩, ⟨by exact HK.out⟩, ⟨by exact HB.out⟩⟩
            ·rw [if_neg c19] at H
             exact absurd H (by simp)
           ·rw [if_neg c18] at H
            have c18b0 : decide (x37_4 < t574) = false := decide_eq_false c18
            clear c18
            have H' := Ak H
            clear H
            go_wp2
            go_roundg k4
            case measure => have := HK1.out; have := HJ2.out; have := HJ10.out; have := HK4.out; omega
            case rel => exact ⟨(x5_4), (t575), (t576), H', ⟨by have := HK1.out; have := HJ2.out; have := HJ10.out; have := HK4.out; omega⟩, ⟨by exact HO_5.out⟩, ⟨by exact HI0.out⟩, ⟨by exact HK.out⟩, ⟨by exact HB.out⟩⟩
     ·replace c8 := Bool.eq_false_iff.mpr c8
      subst c8
      replace H : (some (x5_1, x1000_1, x1001_1)) = some (r1, r2, r3) := by rw [if_neg (show ¬ (false = true) by decide)] at H; exact H
      simp only [Option.some.injEq, Prod.mk.injEq] at H
      obtain ⟨rfl, rfl, rfl⟩ := H
      go_wp2
      go_ret
      exact ⟨_, by rfl, by exact HO_5.out, by exact HI0.out, by exact HB.out, by exact HK.out⟩
end Go.Proofs.Ythhdihnaicggiaa.K
