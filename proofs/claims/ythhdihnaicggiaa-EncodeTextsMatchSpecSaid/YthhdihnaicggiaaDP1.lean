/- Printed by a program of this session: Lean functions that answer as the Go functions do, with the proofs of it. No conditions beyond those in each theorem. -/
import Derived.Test.YthhdihnaicggiaaDP0
namespace Go.Proofs.Ythhdihnaicggiaa.D
open Go.RowKit Go.Proofs.YthhdihnaicggiaaW.PrintWords Go.Proofs.YthhdihnaicggiaaW.PrintLast Go.Proofs.YthhdihnaicggiaaW.PrintMore
attribute [local go_sem] max2_int min2_int max_two min_two max_three min_three max_four min_four gtr_str leq_str geq_str   -- for this text's walks alone
set_option linter.unusedVariables false
set_option linter.unusedSimpArgs false
mutual
def value_CheckValue.j0 : Nat → Int → Bool → Int → Int → ByteArray → Option (Int)
 | 0, _, _, _, _, _ => none
 | k + 1, x5, x16, x236000, x236001, x236002 => if x16 = true then (if x236002.toList = ([] : List UInt8) then (if x236000 = 1 then ((kit_Range.f x236001 0 1).bind fun t236 => (some t236)) else ((kit_Range.f x236001 (-1000000000000000) 1000000000000000).bind fun t237 => (some t237))) else (some 3)) else (if x5 = 3 then (if x236001 = 0 then (if (x236002.size : Int) > 200 then (some 2) else (value_CheckValue.l0 k (x236002.size : Int) 0 x236000 x236001 x236002)) else (some 3)) else (some 4))
def value_CheckValue.l0 : Nat → Int → Int → Int → Int → ByteArray → Option (Int)
 | 0, _, _, _, _, _ => none
 | k + 1, x42, x43, x236000, x236001, x236002 => if x43 < x42 then (if 0 ≤ x43 then (if x43 < (x236002.size : Int) then ((kit_In.f (wrap64 (bt x236002 x43)) 32 126).bind fun t238 => (if t238 = true then (value_CheckValue.l0 k x42 (wrap64 (x43 + 1)) x236000 x236001 x236002) else (some 3))) else (none)) else (none)) else (some 0)
end
def value_CheckValue.f (k : Nat) (a0_0 : Int) (a0_1 : Int) (a0_2 : ByteArray) : Option (Int) := if a0_0 = 0 then (if a0_1 = 0 then (if a0_2.toList = ([] : List UInt8) then (some 0) else (some 3)) else (some 3)) else (if a0_0 = 1 then (value_CheckValue.j0 k a0_0 (a0_0 == 1) a0_0 a0_1 a0_2) else (value_CheckValue.j0 k a0_0 (a0_0 == 2) a0_0 a0_1 a0_2))
theorem value_CheckValue.mono_l : ∀ k, (∀ y0 y1 y2 y3 y4, LeO (value_CheckValue.j0 k y0 y1 y2 y3 y4) (value_CheckValue.j0 (k + 1) y0 y1 y2 y3 y4)) ∧ (∀ y0 y1 y2 y3 y4, LeO (value_CheckValue.l0 k y0 y1 y2 y3 y4) (value_CheckValue.l0 (k + 1) y0 y1 y2 y3 y4))
 | 0 => ⟨fun _ _ _ _ _ r h => by simp [value_CheckValue.j0] at h, fun _ _ _ _ _ r h => by simp [value_CheckValue.l0] at h⟩
 | k + 1 => by
  obtain ⟨ih0, ih1⟩ := value_CheckValue.mono_l k
  refine ⟨?_, ?_⟩ <;> intros
  all_goals (first | unfold value_CheckValue.j0 | unfold value_CheckValue.l0)
  all_goals
   repeat' first
   | (with_reducible exact ih1 _ _ _ _ _)
   | (with_reducible exact LeO.refl _)
   | (with_reducible refine LeO.ite ?_ ?_)
   | (with_reducible refine LeO.bind ?_ (fun _ => ?_))
theorem value_CheckValue.mono : ∀ a0 a1 a2 k, LeO (value_CheckValue.f k a0 a1 a2) (value_CheckValue.f (k + 1) a0 a1 a2) := by
 intro a0 a1 a2 k
 obtain ⟨ih0, ih1⟩ := value_CheckValue.mono_l k
 unfold value_CheckValue.f
 repeat' first
  | (with_reducible exact ih0 _ _ _ _ _)
  | (with_reducible exact LeO.refl _)
  | (with_reducible refine LeO.ite ?_ ?_)
set_option maxHeartbeats 8000000 in
set_option maxRecDepth 100000 in
theorem value_CheckValue.calls (k : Nat) (a0_0 : Int) (a0_1 : Int) (a0_2 : ByteArray) (r : Int) (w : World) (h : value_CheckValue.f k a0_0 a0_1 a0_2 = some r) :
 Calls Try.prog 91 #[.agg #[.int .i64 a0_0, .int .i64 a0_1, .string a0_2]] w fun e w' => e = .returned (.int .i64 r) ∧ Below w.heap.size w w' := by
 have hu101 := Try.underlying101
 have HB := Ak (Below.refl w.heap.size w)
 have H : (if a0_0 = 0 then (if a0_1 = 0 then (if a0_2.toList = ([] : List UInt8) then (some 0) else (some 3)) else (some 3)) else (if a0_0 = 1 then (value_CheckValue.j0 k a0_0 (a0_0 == 1) a0_0 a0_1 a0_2) else (value_CheckValue.j0 k a0_0 (a0_0 == 2) a0_0 a0_1 a0_2))) = some r := h
 clear h
 by_cases c2 : a0_0 = 0
 ·rw [if_pos c2] at H
  have c2b0 : (a0_0 == 0) = true := beq_iff_eq.mpr c2
  have c2b1 : (a0_0 != 0) = false := bne_eq_false_iff_eq.mpr c2
  clear c2
  by_cases c3 : a0_1 = 0
  ·rw [if_pos c3] at H
   have c3b0 : (a0_1 == 0) = true := beq_iff_eq.mpr c3
   have c3b1 : (a0_1 != 0) = false := bne_eq_false_iff_eq.mpr c3
   clear c3
   by_cases c4 : a0_2.toList = ([] : List UInt8)
   ·rw [if_pos c4] at H
    have c4b0 : (a0_2.toList == ([] : List UInt8)) = true := beq_iff_eq.mpr c4
    have c4b1 : (a0_2.toList != ([] : List UInt8)) = false := bne_eq_false_iff_eq.mpr c4
    clear c4
    obtain rfl := Option.some.inj H
    go_enter Try.func91, Try.ntmps91
    go_wp2_with (first | ((with_reducible refine gate_dst (N := 1) rfl ?_); refine box_event ?hg (N := 1) ?hd (cs := #[.int .i64 a0_0, .int .i64 a0_1, .string a0_2]) (t := 101) ?hr ?_; (case hd => rfl); (case hg => rfl); (case hr => (go_simp; done)); intro gb235 hg w5 hbox hb; have n0_ := Ak (below_step (by exact HB.out) hb); have n1_ := Ak (hbox); have n2_ := Ak ((by rw [hg]; exact (below_size (by exact HB.out)) : w.heap.size ≤ gb235)); have n3_ := Ak ((by rw [hg]; exact (below_size (by exact HB.out)) : w.heap.size ≤ gb235)); clear HB; have HB := n0_; have BK235 := n1_; have GW235 := n2_; have GE235 := n3_; clear n0_ n1_ n2_ n3_ hb hbox hg; have hcz6_0 : w5.cell? ⟨gb235, 0, none⟩ = some (.int .i64 a0_0) := (blk_cell BK235.out 0).trans rfl; have hcz6_1 : w5.cell? ⟨gb235, 1, none⟩ = some (.int .i64 a0_1) := (blk_cell BK235.out 1).trans rfl; have hcz6_2 : w5.cell? ⟨gb235, 2, none⟩ = some (.string a0_2) := (blk_cell BK235.out 2).trans rfl; have hfz6_0 := blk_frozen BK235.out 0; have hfz6_1 := blk_frozen BK235.out 1; have hfz6_2 := blk_frozen BK235.out 2))
    go_ret
    exact ⟨by rfl, by exact HB.out⟩
   ·rw [if_neg c4] at H
    have c4b0 : (a0_2.toList == ([] : List UInt8)) = false := beq_eq_false_iff_ne.mpr c4
    have c4b1 : (a0_2.toList != ([] : List UInt8)) = true := bne_iff_ne.mpr c4
    obtain rfl := Option.some.inj H
    go_enter Try.func91, Try.ntmps91
    go_wp2_with (first | ((with_reducible refine gate_dst (N := 1) rfl ?_); refine box_event ?hg (N := 1) ?hd (cs := #[.int .i64 a0_0, .int .i64 a0_1, .string a0_2]) (t := 101) ?hr ?_; (case hd => rfl); (case hg => rfl); (case hr => (go_simp; done)); intro gb235 hg w7 hbox hb; have n0_ := Ak (below_step (by exact HB.out) hb); have n1_ := Ak (hbox); have n2_ := Ak ((by rw [hg]; exact (below_size (by exact HB.out)) : w.heap.size ≤ gb235)); have n3_ := Ak ((by rw [hg]; exact (below_size (by exact HB.out)) : w.heap.size ≤ gb235)); clear HB; have HB := n0_; have BK235 := n1_; have GW235 := n2_; have GE235 := n3_; clear n0_ n1_ n2_ n3_ hb hbox hg; have hcz8_0 : w7.cell? ⟨gb235, 0, none⟩ = some (.int .i64 a0_0) := (blk_cell BK235.out 0).trans rfl; have hcz8_1 : w7.cell? ⟨gb235, 1, none⟩ = some (.int .i64 a0_1) := (blk_cell BK235.out 1).trans rfl; have hcz8_2 : w7.cell? ⟨gb235, 2, none⟩ = some (.string a0_2) := (blk_cell BK235.out 2).trans rfl; have hfz8_0 := blk_frozen BK235.out 0; have hfz8_1 := blk_frozen BK235.out 1; have hfz8_2 := blk_frozen BK235.out 2))
    go_ret
    exact ⟨by rfl, by exact HB.out⟩
  ·rw [if_neg c3] at H
   have c3b0 : (a0_1 == 0) = false := beq_eq_false_iff_ne.mpr c3
   have c3b1 : (a0_1 != 0) = true := bne_iff_ne.mpr c3
   obtain rfl := Option.some.inj H
   go_enter Try.func91, Try.ntmps91
   go_wp2_with (first | ((with_reducible refine gate_dst (N := 1) rfl ?_); refine box_event ?hg (N := 1) ?hd (cs := #[.int .i64 a0_0, .int .i64 a0_1, .string a0_2]) (t := 101) ?hr ?_; (case hd => rfl); (case hg => rfl); (case hr => (go_simp; done)); intro gb235 hg w9 hbox hb; have n0_ := Ak (below_step (by exact HB.out) hb); have n1_ := Ak (hbox); have n2_ := Ak ((by rw [hg]; exact (below_size (by exact HB.out)) : w.heap.size ≤ gb235)); have n3_ := Ak ((by rw [hg]; exact (below_size (by exact HB.out)) : w.heap.size ≤ gb235)); clear HB; have HB := n0_; have BK235 := n1_; have GW235 := n2_; have GE235 := n3_; clear n0_ n1_ n2_ n3_ hb hbox hg; have hcz10_0 : w9.cell? ⟨gb235, 0, none⟩ = some (.int .i64 a0_0) := (blk_cell BK235.out 0).trans rfl; have hcz10_1 : w9.cell? ⟨gb235, 1, none⟩ = some (.int .i64 a0_1) := (blk_cell BK235.out 1).trans rfl; have hcz10_2 : w9.cell? ⟨gb235, 2, none⟩ = some (.string a0_2) := (blk_cell BK235.out 2).trans rfl; have hfz10_0 := blk_frozen BK235.out 0; have hfz10_1 := blk_frozen BK235.out 1; have hfz10_2 := blk_frozen BK235.out 2))
   go_ret
   exact ⟨by rfl, by exact HB.out⟩
 ·rw [if_neg c2] at H
  have c2b0 : (a0_0 == 0) = false := beq_eq_false_iff_ne.mpr c2
  have c2b1 : (a0_0 != 0) = true := bne_iff_ne.mpr c2
  have HC11 := Ak H
  clear H
  go_enter Try.func91, Try.ntmps91
  go_upto_if 16 with (first | ((with_reducible refine gate_dst (N := 1) rfl ?_); refine box_event ?hg (N := 1) ?hd (cs := #[.int .i64 a0_0, .int .i64 a0_1, .string a0_2]) (t := 101) ?hr ?_; (case hd => rfl); (case hg => rfl); (case hr => (go_simp; done)); intro gb235 hg w12 hbox hb; have n0_ := Ak (below_step (by exact HB.out) hb); have n1_ := Ak (hbox); have n2_ := Ak ((by rw [hg]; exact (below_size (by exact HB.out)) : w.heap.size ≤ gb235)); have n3_ := Ak ((by rw [hg]; exact (below_size (by exact HB.out)) : w.heap.size ≤ gb235)); clear HB; have HB := n0_; have BK235 := n1_; have GW235 := n2_; have GE235 := n3_; clear n0_ n1_ n2_ n3_ hb hbox hg; have hcz13_0 : w12.cell? ⟨gb235, 0, none⟩ = some (.int .i64 a0_0) := (blk_cell BK235.out 0).trans rfl; have hcz13_1 : w12.cell? ⟨gb235, 1, none⟩ = some (.int .i64 a0_1) := (blk_cell BK235.out 1).trans rfl; have hcz13_2 : w12.cell? ⟨gb235, 2, none⟩ = some (.string a0_2) := (blk_cell BK235.out 2).trans rfl; have hfz13_0 := blk_frozen BK235.out 0; have hfz13_1 := blk_frozen BK235.out 1; have hfz13_2 := blk_frozen BK235.out 2))
  (try simp only [Act.put, List.setIfInBounds_toArray, List.set_cons_zero, List.set_cons_succ])
  go_cut [16] (fun v16 wc => ∃ (kq : Nat) (x16_10 : Bool), v16 = .bool x16_10 ∧ Aside0 (value_CheckValue.j0 kq a0_0 x16_10 a0_0 a0_1 a0_2 = some r) ∧ Aside0 (kq ≤ k) ∧ Aside0 (wc.heap[gb235]? = some (.cells #[.int .i64 a0_0, .int .i64 a0_1, .string a0_2] 101 (0, 0))) ∧ Aside0 (Below w.heap.size w wc))
  case first =>
   have H := HC11.out
   clear HC11
   by_cases c14 : a0_0 = 1
   ·rw [if_pos c14] at H
    have c14b0 : (a0_0 == 1) = true := beq_iff_eq.mpr c14
    have c14b1 : (a0_0 != 1) = false := bne_eq_false_iff_eq.mpr c14
    clear c14
    (rw [c14b0])
    (try rw [c14b1])
    have H' := Ak H
    clear H
    go_wp2
    go_meet
    case rel => exact ⟨_, ((a0_0 == 1)), (by (simp [*]; done)), H', ⟨by omega⟩, ⟨by exact BK235.out⟩, ⟨by exact HB.out⟩⟩
   ·rw [if_neg c14] at H
    have c14b0 : (a0_0 == 1) = false := beq_eq_false_iff_ne.mpr c14
    have c14b1 : (a0_0 != 1) = true := bne_iff_ne.mpr c14
    (rw [c14b0])
    (try rw [c14b1])
    have H' := Ak H
    clear H
    go_wp2
    go_meet
    case rel => exact ⟨_, ((a0_0 == 2)), (by rfl), H', ⟨by omega⟩, ⟨by exact BK235.out⟩, ⟨by exact HB.out⟩⟩
  case rest =>
   clear HC11
   try clear c2
   try clear c2b0
   try clear c2b1
   try clear hcz13_0
   try clear hcz13_1
   try clear hcz13_2
   try clear hfz13_0
   try clear hfz13_1
   try clear hfz13_2
   obtain ⟨kq, x16_10, rfl, HA, HJ10, BK235, HB⟩ := hcut
   cases kq with
   | zero => exact absurd HA.out (by simp [value_CheckValue.j0])
   | succ kj10 =>
    have H := HA.out
    clear HA
    simp only [value_CheckValue.j0] at H
    by_cases c15 : x16_10 = true
    ·subst c15
     replace H : (if a0_2.toList = ([] : List UInt8) then (if a0_0 = 1 then ((kit_Range.f a0_1 0 1).bind fun t236 => (some t236)) else ((kit_Range.f a0_1 (-1000000000000000) 1000000000000000).bind fun t237 => (some t237))) else (some 3)) = some r := by rw [if_pos rfl] at H; exact H
     by_cases c16 : a0_2.toList = ([] : List UInt8)
     ·rw [if_pos c16] at H
      have c16b0 : (a0_2.toList == ([] : List UInt8)) = true := beq_iff_eq.mpr c16
      have c16b1 : (a0_2.toList != ([] : List UInt8)) = false := bne_eq_false_iff_eq.mpr c16
      clear c16
      by_cases c17 : a0_0 = 1
      ·rw [if_pos c17] at H
       have c17b0 : (a0_0 == 1) = true := beq_iff_eq.mpr c17
       have c17b1 : (a0_0 != 1) = false := bne_eq_false_iff_eq.mpr c17
       clear c17
       replace H := Option.bind_eq_some_iff.mp H
       obtain ⟨t236, A180, H⟩ := H
       replace H : (some t236) = some r := H
       have A18 := Ak A180
       clear A180
       obtain rfl := Option.some.inj H
       have hcz19_0 : wc.cell? ⟨gb235, 0, none⟩ = some (.int .i64 a0_0) := (blk_cell BK235.out 0).trans rfl
       have hcz19_1 : wc.cell? ⟨gb235, 1, none⟩ = some (.int .i64 a0_1) := (blk_cell BK235.out 1).trans rfl
       have hcz19_2 : wc.cell? ⟨gb235, 2, none⟩ = some (.string a0_2) := (blk_cell BK235.out 2).trans rfl
       have hfz19_0 := blk_frozen BK235.out 0
       have hfz19_1 := blk_frozen BK235.out 1
       have hfz19_2 := blk_frozen BK235.out 2
       go_wp2_with (first | ((with_reducible refine gate_callee (f := 118) rfl ?_); refine goesL_ (some 27) rfl rfl Try.func118 (by kernel_rfl) rfl #[.int .i64 a0_1, .int .i64 0, .int .i64 1] rfl (by (try simp only [lm]); rfl) ?_; (with_reducible refine (kit_Range.calls a0_1 0 1 t236 _ A18.out).mono ?_); rintro e w' ⟨rfl, ⟨nd, rfl⟩⟩; refine ⟨_, rfl, ?_⟩))
       go_ret
       exact ⟨by rfl, by repeat ((with_reducible first | exact HB.out | apply pw_below_drewN ))⟩
      ·rw [if_neg c17] at H
       have c17b0 : (a0_0 == 1) = false := beq_eq_false_iff_ne.mpr c17
       have c17b1 : (a0_0 != 1) = true := bne_iff_ne.mpr c17
       replace H := Option.bind_eq_some_iff.mp H
       obtain ⟨t237, A200, H⟩ := H
       replace H : (some t237) = some r := H
       have A20 := Ak A200
       clear A200
       obtain rfl := Option.some.inj H
       have hcz21_0 : wc.cell? ⟨gb235, 0, none⟩ = some (.int .i64 a0_0) := (blk_cell BK235.out 0).trans rfl
       have hcz21_1 : wc.cell? ⟨gb235, 1, none⟩ = some (.int .i64 a0_1) := (blk_cell BK235.out 1).trans rfl
       have hcz21_2 : wc.cell? ⟨gb235, 2, none⟩ = some (.string a0_2) := (blk_cell BK235.out 2).trans rfl
       have hfz21_0 := blk_frozen BK235.out 0
       have hfz21_1 := blk_frozen BK235.out 1
       have hfz21_2 := blk_frozen BK235.out 2
       go_wp2_with (first | ((with_reducible refine gate_callee (f := 118) rfl ?_); refine goesL_ (some 30) rfl rfl Try.func118 (by kernel_rfl) rfl #[.int .i64 a0_1, .int .i64 (-1000000000000000), .int .i64 1000000000000000] rfl (by (try simp only [lm]); rfl) ?_; (with_reducible refine (kit_Range.calls a0_1 (-1000000000000000) 1000000000000000 t237 _ A20.out).mono ?_); rintro e w' ⟨rfl, ⟨nd, rfl⟩⟩; refine ⟨_, rfl, ?_⟩))
       go_ret
       exact ⟨by rfl, by repeat ((with_reducible first | exact HB.out | apply pw_below_drewN ))⟩
     ·rw [if_neg c16] at H
      have c16b0 : (a0_2.toList == ([] : List UInt8)) = false := beq_eq_false_iff_ne.mpr c16
      have c16b1 : (a0_2.toList != ([] : List UInt8)) = true := bne_iff_ne.mpr c16
      obtain rfl := Option.some.inj H
      have hcz22_0 : wc.cell? ⟨gb235, 0, none⟩ = some (.int .i64 a0_0) := (blk_cell BK235.out 0).trans rfl
      have hcz22_1 : wc.cell? ⟨gb235, 1, none⟩ = some (.int .i64 a0_1) := (blk_cell BK235.out 1).trans rfl
      have hcz22_2 : wc.cell? ⟨gb235, 2, none⟩ = some (.string a0_2) := (blk_cell BK235.out 2).trans rfl
      have hfz22_0 := blk_frozen BK235.out 0
      have hfz22_1 := blk_frozen BK235.out 1
      have hfz22_2 := blk_frozen BK235.out 2
      go_wp2
      go_ret
      exact ⟨by rfl, by exact HB.out⟩
    ·replace c15 := Bool.eq_false_iff.mpr c15
     subst c15
     replace H : (if a0_0 = 3 then (if a0_1 = 0 then (if (a0_2.size : Int) > 200 then (some 2) else (value_CheckValue.l0 kj10 (a0_2.size : Int) 0 a0_0 a0_1 a0_2)) else (some 3)) else (some 4)) = some r := by rw [if_neg (show ¬ (false = true) by decide)] at H; exact H
     by_cases c23 : a0_0 = 3
     ·rw [if_pos c23] at H
      have c23b0 : (a0_0 == 3) = true := beq_iff_eq.mpr c23
      have c23b1 : (a0_0 != 3) = false := bne_eq_false_iff_eq.mpr c23
      clear c23
      by_cases c24 : a0_1 = 0
      ·rw [if_pos c24] at H
       have c24b0 : (a0_1 == 0) = true := beq_iff_eq.mpr c24
       have c24b1 : (a0_1 != 0) = false := bne_eq_false_iff_eq.mpr c24
       clear c24
       by_cases c25 : (a0_2.size : Int) > 200
       ·rw [if_pos c25] at H
        have c25b0 : decide (200 < (a0_2.size : Int)) = true := decide_eq_true c25
        have c25b1 : decide (200 < a0_2.size) = true := decide_eq_true (by omega)
        clear c25
        obtain rfl := Option.some.inj H
        have hcz26_0 : wc.cell? ⟨gb235, 0, none⟩ = some (.int .i64 a0_0) := (blk_cell BK235.out 0).trans rfl
        have hcz26_1 : wc.cell? ⟨gb235, 1, none⟩ = some (.int .i64 a0_1) := (blk_cell BK235.out 1).trans rfl
        have hcz26_2 : wc.cell? ⟨gb235, 2, none⟩ = some (.string a0_2) := (blk_cell BK235.out 2).trans rfl
        have hfz26_0 := blk_frozen BK235.out 0
        have hfz26_1 := blk_frozen BK235.out 1
        have hfz26_2 := blk_frozen BK235.out 2
        go_wp2
        go_ret
        exact ⟨by rfl, by exact HB.out⟩
       ·rw [if_neg c25] at H
        have c25b0 : decide (200 < (a0_2.size : Int)) = false := decide_eq_false c25
        have c25b1 : decide (200 < a0_2.size) = false := decide_eq_false (by omega)
        clear c25
        have H' := Ak H
        clear H
        have hcz27_0 : wc.cell? ⟨gb235, 0, none⟩ = some (.int .i64 a0_0) := (blk_cell BK235.out 0).trans rfl
        have hcz27_1 : wc.cell? ⟨gb235, 1, none⟩ = some (.int .i64 a0_1) := (blk_cell BK235.out 1).trans rfl
        have hcz27_2 : wc.cell? ⟨gb235, 2, none⟩ = some (.string a0_2) := (blk_cell BK235.out 2).trans rfl
        have hfz27_0 := blk_frozen BK235.out 0
        have hfz27_1 := blk_frozen BK235.out 1
        have hfz27_2 := blk_frozen BK235.out 2
        go_wp2
        go_loopg [43] kj10 (fun kq v43 w' => ∃ (x43_2 : Int), v43 = .int .i64 x43_2 ∧ Aside0 (value_CheckValue.l0 kq (a0_2.size : Int) x43_2 a0_0 a0_1 a0_2 = some r) ∧ Aside0 (kq ≤ kj10) ∧ Aside0 (w'.heap[gb235]? = some (.cells #[.int .i64 a0_0, .int .i64 a0_1, .string a0_2] 101 (0, 0))) ∧ Aside0 (Below w.heap.size w w'))
        case atStart => exact ⟨(0), (by rfl), H', ⟨Nat.le_refl _⟩, ⟨by exact BK235.out⟩, ⟨by exact HB.out⟩⟩
        case round =>
         clear H'
         try clear c23b0
         try clear c23b1
         try clear c24b0
         try clear c24b1
         try clear c25b0
         try clear c25b1
         try clear hcz27_0
         try clear hcz27_1
         try clear hcz27_2
         try clear hfz27_0
         try clear hfz27_1
         try clear hfz27_2
         obtain ⟨x43_2, rfl, HA, HK2, BK235, HB⟩ := hrel
         cases gk with
         | zero => exact absurd HA.out (by simp [value_CheckValue.l0])
         | succ k2 =>
          have H := HA.out
          clear HA
          simp only [value_CheckValue.l0] at H
          by_cases c28 : x43_2 < (a0_2.size : Int)
          ·rw [if_pos c28] at H
           have c28b0 : decide (x43_2 < (a0_2.size : Int)) = true := decide_eq_true c28
           clear c28
           by_cases c29 : 0 ≤ x43_2
           ·rw [if_pos c29] at H
            have c29b0 : decide (0 ≤ x43_2) = true := decide_eq_true c29
            clear c29
            by_cases c30 : x43_2 < (a0_2.size : Int)
            ·rw [if_pos c30] at H
             have c30b0 : decide (x43_2 < (a0_2.size : Int)) = true := decide_eq_true c30
             clear c30
             replace H := Option.bind_eq_some_iff.mp H
             obtain ⟨t238, A320, H⟩ := H
             replace H : (if t238 = true then (value_CheckValue.l0 k2 (a0_2.size : Int) (wrap64 (x43_2 + 1)) a0_0 a0_1 a0_2) else (some 3)) = some r := H
             have A32 := Ak A320
             clear A320
             by_cases c33 : t238 = true
             ·subst c33
              replace H : (value_CheckValue.l0 k2 (a0_2.size : Int) (wrap64 (x43_2 + 1)) a0_0 a0_1 a0_2) = some r := by rw [if_pos rfl] at H; exact H
              have H' := Ak H
              clear H
              have hcz34_0 : wr.cell? ⟨gb235, 0, none⟩ = some (.int .i64 a0_0) := (blk_cell BK235.out 0).trans rfl
              have hcz34_1 : wr.cell? ⟨gb235, 1, none⟩ = some (.int .i64 a0_1) := (blk_cell BK235.out 1).trans rfl
              have hcz34_2 : wr.cell? ⟨gb235, 2, none⟩ = some (.string a0_2) := (blk_cell BK235.out 2).trans rfl
              have hfz34_0 := blk_frozen BK235.out 0
              have hfz34_1 := blk_frozen BK235.out 1
              have hfz34_2 := blk_frozen BK235.out 2
              have p31 : 0 ≤ (x43_2 : Int) := of_decide_eq_true (by (with_reducible assumption))
              have q31 : x43_2 < (a0_2.size : Int) := of_decide_eq_true (by (with_reducible assumption))
              have hx31 := bt_at a0_2 x43_2
              replace p31 := eq_true p31
              replace q31 := eq_true q31
              go_wp2_with (first | ((with_reducible refine gate_callee (f := 52) rfl ?_); refine goesL_ (some 51) rfl rfl Try.func52 (by kernel_rfl) rfl #[.int .i64 (wrap64 (bt a0_2 x43_2)), .int .i64 32, .int .i64 126] rfl (by (try simp only [lm]); rfl) ?_; (with_reducible refine (kit_In.calls (wrap64 (bt a0_2 x43_2)) 32 126 true _ A32.out).mono ?_); rintro e w' ⟨rfl, ⟨nd, rfl⟩⟩; refine ⟨_, rfl, ?_⟩))
              go_roundg k2
              case measure => have := HJ10.out; have := HK2.out; omega
              case rel => exact ⟨(wrap64 (x43_2 + 1)), (by rfl), H', ⟨by have := HJ10.out; have := HK2.out; omega⟩, ⟨by (with_reducible repeat (refine blk_drewN ?_ _)); exact BK235.out⟩, ⟨by repeat ((with_reducible first | exact HB.out | apply pw_below_drewN ))⟩⟩
             ·replace c33 := Bool.eq_false_iff.mpr c33
              subst c33
              replace H : (some 3) = some r := by rw [if_neg (show ¬ (false = true) by decide)] at H; exact H
              obtain rfl := Option.some.inj H
              have hcz35_0 : wr.cell? ⟨gb235, 0, none⟩ = some (.int .i64 a0_0) := (blk_cell BK235.out 0).trans rfl
              have hcz35_1 : wr.cell? ⟨gb235, 1, none⟩ = some (.int .i64 a0_1) := (blk_cell BK235.out 1).trans rfl
              have hcz35_2 : wr.cell? ⟨gb235, 2, none⟩ = some (.string a0_2) := (blk_cell BK235.out 2).trans rfl
              have hfz35_0 := blk_frozen BK235.out 0
              have hfz35_1 := blk_frozen BK235.out 1
              have hfz35_2 := blk_frozen BK235.out 2
              have p31 : 0 ≤ (x43_2 : Int) := of_decide_eq_true (by (with_reducible assumption))
              have q31 : x43_2 < (a0_2.size : Int) := of_decide_eq_true (by (with_reducible assumption))
              have hx31 := bt_at a0_2 x43_2
              replace p31 := eq_true p31
              replace q31 := eq_true q31
              go_wp2_with (first | ((with_reducible refine gate_callee (f := 52) rfl ?_); refine goesL_ (some 51) rfl rfl Try.func52 (by kernel_rfl) rfl #[.int .i64 (wrap64 (bt a0_2 x43_2)), .int .i64 32, .int .i64 126] rfl (by (try simp only [lm]); rfl) ?_; (with_reducible refine (kit_In.calls (wrap64 (bt a0_2 x43_2)) 32 126 false _ A32.out).mono ?_); rintro e w' ⟨rfl, ⟨nd, rfl⟩⟩; refine ⟨_, rfl, ?_⟩))
              go_ret
              exact ⟨by rfl, by repeat ((with_reducible first | exact HB.out | apply pw_below_drewN ))⟩
            ·rw [if_neg c30] at H
             exact absurd H (by simp)
           ·rw [if_neg c29] at H
            exact absurd H (by simp)
          ·rw [if_neg c28] at H
           have c28b0 : decide (x43_2 < (a0_2.size : Int)) = false := decide_eq_false c28
           clear c28
           obtain rfl := Option.some.inj H
           go_wp2
           go_ret
           exact ⟨by rfl, by exact HB.out⟩
      ·rw [if_neg c24] at H
       have c24b0 : (a0_1 == 0) = false := beq_eq_false_iff_ne.mpr c24
       have c24b1 : (a0_1 != 0) = true := bne_iff_ne.mpr c24
       obtain rfl := Option.some.inj H
       have hcz36_0 : wc.cell? ⟨gb235, 0, none⟩ = some (.int .i64 a0_0) := (blk_cell BK235.out 0).trans rfl
       have hcz36_1 : wc.cell? ⟨gb235, 1, none⟩ = some (.int .i64 a0_1) := (blk_cell BK235.out 1).trans rfl
       have hcz36_2 : wc.cell? ⟨gb235, 2, none⟩ = some (.string a0_2) := (blk_cell BK235.out 2).trans rfl
       have hfz36_0 := blk_frozen BK235.out 0
       have hfz36_1 := blk_frozen BK235.out 1
       have hfz36_2 := blk_frozen BK235.out 2
       go_wp2
       go_ret
       exact ⟨by rfl, by exact HB.out⟩
     ·rw [if_neg c23] at H
      have c23b0 : (a0_0 == 3) = false := beq_eq_false_iff_ne.mpr c23
      have c23b1 : (a0_0 != 3) = true := bne_iff_ne.mpr c23
      obtain rfl := Option.some.inj H
      go_wp2
      go_ret
      exact ⟨by rfl, by exact HB.out⟩
def kit_Text.f (a0 : ByteArray) : Option (Int × Int × ByteArray) := some (3, 0, a0)
set_option maxHeartbeats 8000000 in
set_option maxRecDepth 100000 in
theorem kit_Text.calls (a0 : ByteArray) (r1 : Int) (r2 : Int) (r3 : ByteArray) (w : World) (h : kit_Text.f a0 = some (r1, r2, r3)) :
 Calls Try.prog 92 #[.string a0] w fun e w' => e = .returned (.agg #[.int .i64 r1, .int .i64 r2, .string r3]) ∧ Below w.heap.size w w' := by
 have hu101 := Try.underlying101
 have HB := Ak (Below.refl w.heap.size w)
 have H : (some (3, 0, a0)) = some (r1, r2, r3) := h
 clear h
 simp only [Option.some.injEq, Prod.mk.injEq] at H
 obtain ⟨rfl, rfl, rfl⟩ := H
 go_enter Try.func92, Try.ntmps92
 go_wp2_with (first | ((with_reducible refine gate_dst (N := 2) rfl ?_); refine box_event ?hg (N := 2) ?hd (cs := #[.int .i64 0, .int .i64 0, .string (⟨#[]⟩ : ByteArray)]) (t := 101) ?hr ?_; (case hd => rfl); (case hg => rfl); (case hr => (go_simp; done)); intro gb239 hg w2 hbox hb; have n0_ := Ak (below_step (by exact HB.out) hb); have n1_ := Ak (hbox); have n2_ := Ak ((by rw [hg]; exact (below_size (by exact HB.out)) : w.heap.size ≤ gb239)); have n3_ := Ak ((by rw [hg]; exact (below_size (by exact HB.out)) : w.heap.size ≤ gb239)); clear HB; have HB := n0_; have BK239 := n1_; have GW239 := n2_; have GE239 := n3_; clear n0_ n1_ n2_ n3_ hb hbox hg; have hcz3_0 : w2.cell? ⟨gb239, 0, none⟩ = some (.int .i64 0) := (blk_cell BK239.out 0).trans rfl; have hcz3_1 : w2.cell? ⟨gb239, 1, none⟩ = some (.int .i64 0) := (blk_cell BK239.out 1).trans rfl; have hcz3_2 : w2.cell? ⟨gb239, 2, none⟩ = some (.string (⟨#[]⟩ : ByteArray)) := (blk_cell BK239.out 2).trans rfl; have hfz3_0 := blk_frozen BK239.out 0; have hfz3_1 := blk_frozen BK239.out 1; have hfz3_2 := blk_frozen BK239.out 2))
 refine bodyPost_ret (results_cell_row rfl _ _ gb239 101 #[.int .i64 3, .int .i64 0, .string a0] (0, 0) _ rfl (by refine blk_put (cs := #[.int .i64 3, .int .i64 0, .string (⟨#[]⟩ : ByteArray)]) ?_ 2 _ rfl; refine blk_put (cs := #[.int .i64 3, .int .i64 0, .string (⟨#[]⟩ : ByteArray)]) ?_ 1 _ rfl; refine blk_put (cs := #[.int .i64 0, .int .i64 0, .string (⟨#[]⟩ : ByteArray)]) ?_ 0 _ rfl; exact BK239.out) Try.underlying101 rfl (by kernel_rfl)) rfl ?_
 exact ⟨by rfl, by repeat ((with_reducible first | exact HB.out | refine below_set ?_ GE239.out))⟩
def e_checkTexts.l0 : Nat → List ByteArray → Int → Int → Option (Int)
 | 0, _, _, _ => none
 | k + 1, x9, x10, x11 => if x11 < x10 then (if 0 ≤ x11 then (if x11 < (x9.length : Int) then ((kit_Text.f (rdOf ByteArray.empty x9 x11)).bind fun bt241 => ((value_CheckValue.f k bt241.1 bt241.2.1 bt241.2.2).bind fun t244 => (if t244 = 0 then (e_checkTexts.l0 k x9 x10 (wrap64 (x11 + 1))) else (some t244)))) else (none)) else (none)) else (some 0)
def e_checkTexts.f (k : Nat) (l0 : List ByteArray) : Option (Int) := if (l0.length : Int) > 2000 then (some 2) else (e_checkTexts.l0 k l0 (l0.length : Int) 0)
theorem e_checkTexts.mono_l : ∀ k, (∀ y0 y1 y2, LeO (e_checkTexts.l0 k y0 y1 y2) (e_checkTexts.l0 (k + 1) y0 y1 y2))
 | 0 => fun _ _ _ r h => by simp [e_checkTexts.l0] at h
 | k + 1 => by
  have ih0 := e_checkTexts.mono_l k
  ·intro y0 y1 y2
   unfold e_checkTexts.l0
   repeat' first
   | (with_reducible exact ih0 _ _ _)
   | (with_reducible exact value_CheckValue.mono _ _ _ _)
   | (with_reducible exact LeO.refl _)
   | (with_reducible refine LeO.ite ?_ ?_)
   | (with_reducible refine LeO.bind ?_ (fun _ => ?_))
theorem e_checkTexts.mono : ∀ a0 k, LeO (e_checkTexts.f k a0) (e_checkTexts.f (k + 1) a0) := by
 intro a0 k
 have ih0 := e_checkTexts.mono_l k
 unfold e_checkTexts.f
 repeat' first
  | (with_reducible exact ih0 _ _ _)
  | (with_reducible exact LeO.refl _)
  | (with_reducible refine LeO.ite ?_ ?_)
set_option maxHeartbeats 8000000 in
set_option maxRecDepth 100000 in
theorem e_checkTexts.calls (k : Nat) (A0 : Option Addr) (c0 : Nat) (l0 : List ByteArray) (r : Int) (w : World) (hr0 : Kd.C Kd.string w A0 l0.length l0) (hc0 : l0.length ≤ c0) (h : e_checkTexts.f k l0 = some r) :
 Calls Try.prog 68 #[.slice A0 l0.length c0] w fun e w' => e = .returned (.int .i64 r) ∧ Below w.heap.size w w' := by
 have HR0 := Ak hr0
 have HC0 := Ak hc0
 clear hr0 hc0
 have HB := Ak (Below.refl w.heap.size w)
 have H : (if (l0.length : Int) > 2000 then (some 2) else (e_checkTexts.l0 k l0 (l0.length : Int) 0)) = some r := h
 clear h
 by_cases c2 : (l0.length : Int) > 2000
 ·rw [if_pos c2] at H
  have c2b0 : decide (2000 < (l0.length : Int)) = true := decide_eq_true c2
  have c2b1 : decide (2000 < l0.length) = true := decide_eq_true (by omega)
  clear c2
  obtain rfl := Option.some.inj H
  go_enter Try.func68, Try.ntmps68
  go_wp2
  go_ret
  exact ⟨by rfl, by exact HB.out⟩
 ·rw [if_neg c2] at H
  have c2b0 : decide (2000 < (l0.length : Int)) = false := decide_eq_false c2
  have c2b1 : decide (2000 < l0.length) = false := decide_eq_false (by omega)
  clear c2
  have H' := Ak H
  clear H
  go_enter Try.func68, Try.ntmps68
  go_wp2
  go_loopg [11] k (fun kq v11 w' => ∃ (x11_1 : Int), v11 = .int .i64 x11_1 ∧ Aside0 (e_checkTexts.l0 kq l0 (l0.length : Int) x11_1 = some r) ∧ Aside0 (kq ≤ k) ∧ Aside0 (Below w.heap.size w w'))
  case atStart => exact ⟨(0), (by rfl), H', ⟨Nat.le_refl _⟩, ⟨by exact HB.out⟩⟩
  case round =>
   clear H'
   try clear c2b0
   try clear c2b1
   obtain ⟨x11_1, rfl, HA, HK1, HB⟩ := hrel
   cases gk with
   | zero => exact absurd HA.out (by simp [e_checkTexts.l0])
   | succ k1 =>
    have H := HA.out
    clear HA
    simp only [e_checkTexts.l0] at H
    by_cases c3 : x11_1 < (l0.length : Int)
    ·rw [if_pos c3] at H
     have c3b0 : decide (x11_1 < (l0.length : Int)) = true := decide_eq_true c3
     clear c3
     by_cases c4 : 0 ≤ x11_1
     ·rw [if_pos c4] at H
      have c4b0 : decide (0 ≤ x11_1) = true := decide_eq_true c4
      clear c4
      by_cases c5 : x11_1 < (l0.length : Int)
      ·rw [if_pos c5] at H
       have c5b0 : decide (x11_1 < (l0.length : Int)) = true := decide_eq_true c5
       clear c5
       replace H := Option.bind_eq_some_iff.mp H
       obtain ⟨⟨t241, t242, t243⟩, A60, H⟩ := H
       replace H : ((value_CheckValue.f k1 t241 t242 t243).bind fun t244 => (if t244 = 0 then (e_checkTexts.l0 k1 l0 (l0.length : Int) (wrap64 (x11_1 + 1))) else (some t244))) = some r := H
       have A6 := Ak A60
       clear A60
       replace H := Option.bind_eq_some_iff.mp H
       obtain ⟨t244, A70, H⟩ := H
       replace H : (if t244 = 0 then (e_checkTexts.l0 k1 l0 (l0.length : Int) (wrap64 (x11_1 + 1))) else (some t244)) = some r := H
       have A7 := Ak A70
       clear A70
       by_cases c8 : t244 = 0
       ·rw [if_pos c8] at H
        have c8b0 : (t244 == 0) = true := beq_iff_eq.mpr c8
        have c8b1 : (t244 != 0) = false := bne_eq_false_iff_eq.mpr c8
        clear c8
        have H' := Ak H
        clear H
        have p240 : 0 ≤ (x11_1 : Int) := of_decide_eq_true (by (with_reducible assumption))
        have q240 : x11_1 < (l0.length : Int) := of_decide_eq_true (by (with_reducible assumption))
        obtain ⟨ad240, e240, hx240_0⟩ := Kd.at_string HR0.out x11_1 p240 q240
        cases e240
        replace hx240_0 := (HB.out.cell (World.block_lt_of_cell? w _ hx240_0)).trans hx240_0
        replace p240 := eq_true p240
        replace q240 := eq_true q240
        go_wp2_with (first | ((with_reducible refine gate_callee (f := 92) rfl ?_); refine goesL_ (some 16) rfl rfl Try.func92 (by kernel_rfl) rfl #[.string (rdOf ByteArray.empty l0 x11_1)] rfl (by (try simp only [lm]); rfl) ?_; (with_reducible refine (kit_Text.calls (rdOf ByteArray.empty l0 x11_1) t241 t242 t243 _ A6.out).mono ?_); rintro e w9 ⟨rfl, hb⟩; refine ⟨_, rfl, ?_⟩; have n0_ := Ak (below_step (by exact HB.out) hb); clear HB; have HB := n0_; clear n0_; (try clear hb); (try clear hi)) | ((with_reducible refine gate_callee (f := 91) rfl ?_); refine goesL_ (some 17) rfl rfl Try.func91 (by kernel_rfl) rfl #[.agg #[.int .i64 t241, .int .i64 t242, .string t243]] rfl (by (try simp only [lm]); rfl) ?_; (with_reducible refine (value_CheckValue.calls k1 t241 t242 t243 t244 _ A7.out).mono ?_); rintro e w10 ⟨rfl, hb⟩; refine ⟨_, rfl, ?_⟩; have n0_ := Ak (below_step (by exact HB.out) hb); clear HB; have HB := n0_; clear n0_; (try clear hb); (try clear hi)))
        go_roundg k1
        case measure => have := HK1.out; omega
        case rel => exact ⟨(wrap64 (x11_1 + 1)), (by rfl), H', ⟨by have := HK1.out; omega⟩, ⟨by exact HB.out⟩⟩
       ·rw [if_neg c8] at H
        have c8b0 : (t244 == 0) = false := beq_eq_false_iff_ne.mpr c8
        have c8b1 : (t244 != 0) = true := bne_iff_ne.mpr c8
        obtain rfl := Option.some.inj H
        have p240 : 0 ≤ (x11_1 : Int) := of_decide_eq_true (by (with_reducible assumption))
        have q240 : x11_1 < (l0.length : Int) := of_decide_eq_true (by (with_reducible assumption))
        obtain ⟨ad240, e240, hx240_0⟩ := Kd.at_string HR0.out x11_1 p240 q240
        cases e240
        replace hx240_0 := (HB.out.cell (World.block_lt_of_cell? w _ hx240_0)).trans hx240_0
        replace p240 := eq_true p240
        replace q240 := eq_true q240
        go_wp2_with (first | ((with_reducible refine gate_callee (f := 92) rfl ?_); refine goesL_ (some 16) rfl rfl Try.func92 (by kernel_rfl) rfl #[.string (rdOf ByteArray.empty l0 x11_1)] rfl (by (try simp only [lm]); rfl) ?_; (with_reducible refine (kit_Text.calls (rdOf ByteArray.empty l0 x11_1) t241 t242 t243 _ A6.out).mono ?_); rintro e w11 ⟨rfl, hb⟩; refine ⟨_, rfl, ?_⟩; have n0_ := Ak (below_step (by exact HB.out) hb); clear HB; have HB := n0_; clear n0_; (try clear hb); (try clear hi)) | ((with_reducible refine gate_callee (f := 91) rfl ?_); refine goesL_ (some 17) rfl rfl Try.func91 (by kernel_rfl) rfl #[.agg #[.int .i64 t241, .int .i64 t242, .string t243]] rfl (by (try simp only [lm]); rfl) ?_; (with_reducible refine (value_CheckValue.calls k1 t241 t242 t243 t244 _ A7.out).mono ?_); rintro e w12 ⟨rfl, hb⟩; refine ⟨_, rfl, ?_⟩; have n0_ := Ak (below_step (by exact HB.out) hb); clear HB; have HB := n0_; clear n0_; (try clear hb); (try clear hi)))
        go_ret
        exact ⟨by rfl, by exact HB.out⟩
      ·rw [if_neg c5] at H
       exact absurd H (by simp)
     ·rw [if_neg c4] at H
      exact absurd H (by simp)
    ·rw [if_neg c3] at H
     have c3b0 : decide (x11_1 < (l0.length : Int)) = false := decide_eq_false c3
     clear c3
     obtain rfl := Option.some.inj H
     go_wp2
     go_ret
     exact ⟨by rfl, by exact HB.out⟩
-- (written by hand)
def s_Clonet.f (l0 : List ByteArray) : Option (List ByteArray) := if l0.length * 16 ≤ 140737488355328 then some l0 else none
theorem s_Clonet.calls (A0 : Option Addr) (c0 : Nat) (l0 : List ByteArray) (r : List ByteArray) (w : World) (hr0 : Kd.C Kd.string w A0 l0.length l0) (hc0 : l0.length ≤ c0) (h : s_Clonet.f l0 = some r) :
 Calls Try.prog 93 #[.slice A0 l0.length c0] w fun e w' => ∃ v0_ : Value, e = .returned (v0_) ∧ Kd.R Kd.string 9 w' w.heap.size (fun _ => True) v0_ r ∧ Below w.heap.size w w' := by
 unfold s_Clonet.f at h
 split at h
 case isFalse => cases h
 rename_i hsz
 obtain rfl := Option.some.inj h
 cases l0 with
 | nil =>
  cases A0 with
  | none =>
   refine (Try.slices_Clone_string_nil 0 c0 w).mono ?_
   rintro e w' ⟨rfl, rfl⟩
   exact ⟨_, rfl, Kd.R_nil _ _ _ _ _, Below.refl _ _⟩
  | some a =>
   refine (Try.slices_Clone_string_zero a c0 w).mono ?_
   rintro e w' ⟨v, rfl, ho, _, hb⟩
   exact ⟨_, rfl, Kd.R_of_own (by simpa [encs] using ho) (fun _ _ => trivial), hb⟩
 | cons x l =>
  obtain ⟨b, off, rfl, hc⟩ := C_addr (z := ByteArray.empty) hr0 (by simp)
  refine (Try.slices_Clone_string b off (x :: l).length c0 (x :: l) w (Nat.le_refl _) hsz hc).mono ?_
  rintro e w' ⟨v, rfl, ho, _, hb⟩
  exact ⟨_, rfl, Kd.R_of_own (by simpa [encs] using ho) (fun _ _ => trivial), hb⟩
-- (written by hand)
def s_Sortt.f (l0 : List ByteArray) : Option (List ByteArray) := if l0.length < 4611686018427387904 then some (((l0.map fun s => s.data.toList).mergeSort fun x y => decide (x ≤ y)).map fun l => ⟨l.toArray⟩) else none
theorem s_Sortt.calls (P0_ : Nat → Prop) (u9000_ : Value) (l0 : List ByteArray) (r : List ByteArray) (w0 w : World) (hB : Below w0.heap.size w0 w) (ho0 : Kd.R Kd.string 9 w w0.heap.size P0_ u9000_ l0) (h : s_Sortt.f l0 = some r) :
 Calls Try.prog 94 #[u9000_] w fun e w' => e = .returned (.tuple #[]) ∧ Kd.R Kd.string 9 w' w0.heap.size (fun k_ => (P0_ k_ ∨ w.heap.size ≤ k_)) u9000_ r ∧ Below w0.heap.size w0 w' ∧ Kept w w' (fun k_ => P0_ k_) := by
 unfold s_Sortt.f at h
 split at h
 case isFalse => cases h
 rename_i hsz
 obtain rfl := Option.some.inj h
 have ho := Kd.own_of_R ho0
 have henc : ∀ l : List ByteArray, encs Value.string l = (l.map fun s => s.data.toList).map encStr := by
  intro l
  simp [encs, encStr]
 have henc2 : ∀ l : List (List UInt8), encs Value.string (l.map fun l => (⟨l.toArray⟩ : ByteArray)) = l.map encStr := by
  intro l
  simp [encs, encStr]
 rcases ho.2 with ⟨rfl, hn⟩ | ⟨g, cap, cur, rfl, hg, hb, h1, h2, h3, h4⟩
 ·obtain rfl : l0 = [] := List.eq_nil_of_length_eq_zero hn
  refine (Try.slices_Sort_string_none none 0 w).mono ?_
  rintro e w' ⟨rfl, rfl⟩
  exact ⟨rfl, by simpa using Kd.R_nil _ _ _ _ _, hB, Kept.refl _ _⟩
 ·rw [henc, Nat.mul_one] at h4
  have hlen : (l0.map fun s => s.data.toList).length = l0.length := by simp
  have hc := Try.slices_Sort_string g 0 cap (l0.map fun s => s.data.toList) w (holds_of_block hb (by rw [hlen]; exact h4)) (blk_lt hb) (by rw [hlen]; exact hsz)
  rw [hlen] at hc
  refine hc.mono ?_
  rintro e w' ⟨rfl, n, os, rfl⟩
  have hgr := grownBy_sorted (w := w) (g := g) (n := n) (os := os) ((l0.map fun s => s.data.toList).mergeSort fun x y => decide (x ≤ y)).toArray
  have hl : ((l0.map fun s => s.data.toList).mergeSort fun x y => decide (x ≤ y)).length = (l0.map fun s => s.data.toList).length := by simp
  refine ⟨rfl, Kd.R_of_own ?_ (fun k hk => .inl (ho0.1 k hk)), hB.grown hgr hB.size (fun k hk => by cases hk; exact hg), Kept.of_grown hgr (Kept.refl _ _) (fun k hk => .inl (by cases hk; exact ho0.1 g rfl))⟩
  have := ownsRow_sorted (n := n) (os := os) hl hg hb (by rw [hlen]; exact h1) h2 h3
  rw [henc2]
  rw [hlen] at this
  have e2 : ((((l0.map fun s => s.data.toList).mergeSort fun x y => decide (x ≤ y))).map fun l => (⟨l.toArray⟩ : ByteArray)).length = l0.length := by simp
  rw [e2]
  exact this
-- (written by hand)
def s_Compactt.f (l0 : List ByteArray) : Option (List ByteArray) := some ((Lib.compact (l0.map fun s => s.data.toList)).map fun l => ⟨l.toArray⟩)
theorem s_Compactt.calls (P0_ : Nat → Prop) (u9000_ : Value) (l0 : List ByteArray) (r : List ByteArray) (w0 w : World) (hB : Below w0.heap.size w0 w) (ho0 : Kd.R Kd.string 9 w w0.heap.size P0_ u9000_ l0) (h : s_Compactt.f l0 = some r) :
 Calls Try.prog 95 #[u9000_] w fun e w' => ∃ v0_ : Value, e = .returned (v0_) ∧ Kd.R Kd.string 9 w' w0.heap.size (fun k_ => (P0_ k_ ∨ w.heap.size ≤ k_)) v0_ r ∧ Below w0.heap.size w0 w' ∧ Kept w w' (fun k_ => P0_ k_) := by
 obtain rfl := Option.some.inj h
 have ho := Kd.own_of_R ho0
 have henc : ∀ l : List ByteArray, encs Value.string l = (l.map fun s => s.data.toList).map encStr := by
  intro l
  simp [encs, encStr]
 have henc2 : ∀ l : List (List UInt8), encs Value.string (l.map fun l => (⟨l.toArray⟩ : ByteArray)) = l.map encStr := by
  intro l
  simp [encs, encStr]
 by_cases hn0 : l0 = []
 ·subst hn0
  obtain ⟨A, c, rfl, _⟩ : ∃ A c, u9000_ = .slice A 0 c ∧ True := by
   rcases ho.2 with ⟨rfl, hn⟩ | ⟨g, cap, cur, rfl, _⟩
   ·exact ⟨_, _, rfl, trivial⟩
   ·exact ⟨_, _, rfl, trivial⟩
  refine (Try.slices_Compact_string_empty A c w).mono ?_
  rintro e w' ⟨rfl, rfl⟩
  exact ⟨_, rfl, by rw [show (Lib.compact (([] : List ByteArray).map fun s => s.data.toList)).map (fun l => (⟨l.toArray⟩ : ByteArray)) = [] from rfl]; exact Kd.R_mono ho0 (fun k hk => .inl hk), hB, Kept.refl _ _⟩
 rcases ho.2 with ⟨rfl, hn⟩ | ⟨g, cap, cur, rfl, hg, hb, h1, h2, h3, h4⟩
 ·exact absurd (List.eq_nil_of_length_eq_zero hn) hn0
 ·rw [henc, Nat.mul_one] at h4
  have hlen : (l0.map fun s => s.data.toList).length = l0.length := by simp
  have hcc := Try.slices_Compact_string g 0 cap (l0.map fun s => s.data.toList) w (holds_of_block hb (by rw [hlen]; exact h4)) (by rw [hlen]; unfold maxLen at h2; omega) (by rw [hlen]; exact h1)
  rw [hlen] at hcc
  refine hcc.mono ?_
  rintro e w' ⟨rfl, n, rfl⟩
  have hle : (Lib.compact (l0.map fun s => s.data.toList)).length ≤ l0.length := by
   have := compact_length_le (l0.map fun s => s.data.toList)
   rwa [hlen] at this
  generalize hcm : Lib.compact (l0.map fun s => s.data.toList) = cm at *
  have hl : (cm ++ List.replicate (l0.length - cm.length) []).length = (l0.map fun s => s.data.toList).length := by simp; omega
  have hgr := grownBy_sorted (w := w) (g := g) (n := n) (os := #[]) (cm ++ List.replicate (l0.length - cm.length) []).toArray
  have hown := ownsRow_sorted (n := n) (os := #[]) hl hg hb (by rw [hlen]; exact h1) h2 h3
  rw [Sort.grow_empty] at hgr hown
  refine ⟨_, rfl, ?_, hB.grown hgr hB.size (fun k hk => by cases hk; exact hg), Kept.of_grown hgr (Kept.refl _ _) (fun k hk => .inl (by cases hk; exact ho0.1 g rfl))⟩
  refine Kd.R_of_own (enc := Value.string) ?_ (fun k hk => .inl (ho0.1 k hk))
  rw [henc2, List.length_map]
  obtain ⟨_, hr⟩ := hown
  rcases hr with ⟨hr, _⟩ | ⟨g', cap', cur', hv, hg', hb', q1, q2, q3, q4⟩
  ·cases hr
  ·cases hv
   refine ⟨by simp, .inr ⟨g, cap, cur', rfl, hg, hb', by omega, q2, q3, ?_⟩⟩
   rw [Nat.mul_one, hlen] at q4
   rw [Nat.mul_one]
   have := congrArg (List.take cm.length) q4
   rw [List.take_take, Nat.min_eq_left hle, List.map_append, List.take_append_of_le_length (by simp)] at this
   rw [this]
   exact List.take_of_length_le (by simp)
def e_common.l0 : Nat → ByteArray → ByteArray → Int → Option (Int)
 | 0, _, _, _ => none
 | k + 1, x0, x1, x5 => if x5 < (x0.size : Int) then (if x5 < (x1.size : Int) then (if 0 ≤ x5 then (if (bt x0 x5) = (bt x1 x5) then (e_common.l0 k x0 x1 (wrap64 (x5 + 1))) else (some x5)) else (none)) else (some x5)) else (some x5)
def e_common.f (k : Nat) (a0 : ByteArray) (a1 : ByteArray) : Option (Int) := e_common.l0 k a0 a1 0
theorem e_common.mono_l : ∀ k, (∀ y0 y1 y2, LeO (e_common.l0 k y0 y1 y2) (e_common.l0 (k + 1) y0 y1 y2))
 | 0 => fun _ _ _ r h => by simp [e_common.l0] at h
 | k + 1 => by
  have ih0 := e_common.mono_l k
  ·intro y0 y1 y2
   unfold e_common.l0
   repeat' first
   | (with_reducible exact ih0 _ _ _)
   | (with_reducible exact LeO.refl _)
   | (with_reducible refine LeO.ite ?_ ?_)
theorem e_common.mono : ∀ a0 a1 k, LeO (e_common.f k a0 a1) (e_common.f (k + 1) a0 a1) := by
 intro a0 a1 k
 have ih0 := e_common.mono_l k
 unfold e_common.f
 repeat' first
  | (with_reducible exact ih0 _ _ _)
set_option maxHeartbeats 8000000 in
set_option maxRecDepth 100000 in
theorem e_common.calls (k : Nat) (a0 : ByteArray) (a1 : ByteArray) (r : Int) (w : World) (h : e_common.f k a0 a1 = some r) :
 Calls Try.prog 96 #[.string a0, .string a1] w fun e w' => e = .returned (.int .i64 r) ∧ Drawn0 w w' := by
 have H : (e_common.l0 k a0 a1 0) = some r := h
 clear h
 have H' := Ak H
 clear H
 go_enter Try.func96, Try.ntmps96
 go_wp2
 repeat (go_quiet (fail); try go_wp2)
 go_loopg [5] k (fun kq v5 w' => ∃ (x5_1 : Int), v5 = .int .i64 x5_1 ∧ Aside0 (e_common.l0 kq a0 a1 x5_1 = some r) ∧ Aside0 (kq ≤ k) ∧ Drawn0 w w')
 case atStart => exact ⟨(0), (by rfl), H', ⟨Nat.le_refl _⟩, by repeat (exact Drawn0.refl _)⟩
 case round =>
  clear H'
  obtain ⟨x5_1, rfl, HA, HK1, ⟨m1, rfl⟩⟩ := hrel
  cases gk with
  | zero => exact absurd HA.out (by simp [e_common.l0])
  | succ k1 =>
   have H := HA.out
   clear HA
   simp only [e_common.l0] at H
   by_cases c3 : x5_1 < (a0.size : Int)
   ·rw [if_pos c3] at H
    have c3b0 : decide (x5_1 < (a0.size : Int)) = true := decide_eq_true c3
    clear c3
    by_cases c4 : x5_1 < (a1.size : Int)
    ·rw [if_pos c4] at H
     have c4b0 : decide (x5_1 < (a1.size : Int)) = true := decide_eq_true c4
     clear c4
     by_cases c5 : 0 ≤ x5_1
     ·rw [if_pos c5] at H
      have c5b0 : decide (0 ≤ x5_1) = true := decide_eq_true c5
      clear c5
      by_cases c8 : (bt a0 x5_1) = (bt a1 x5_1)
      ·rw [if_pos c8] at H
       have c8b0 : ((bt a0 x5_1) == (bt a1 x5_1)) = true := beq_iff_eq.mpr c8
       have c8b1 : ((bt a0 x5_1) != (bt a1 x5_1)) = false := bne_eq_false_iff_eq.mpr c8
       clear c8
       have H' := Ak H
       clear H
       have p6 : 0 ≤ (x5_1 : Int) := of_decide_eq_true (by (with_reducible assumption))
       have q6 : x5_1 < (a0.size : Int) := of_decide_eq_true (by (with_reducible assumption))
       have hx6 := bt_at a0 x5_1
       replace p6 := eq_true p6
       replace q6 := eq_true q6
       have p7 : 0 ≤ (x5_1 : Int) := of_decide_eq_true (by (with_reducible assumption))
       have q7 : x5_1 < (a1.size : Int) := of_decide_eq_true (by (with_reducible assumption))
       have hx7 := bt_at a1 x5_1
       replace p7 := eq_true p7
       replace q7 := eq_true q7
       go_wp2
       repeat (go_quiet (fail); try go_wp2)
       go_roundg k1
       case measure => have := HK1.out; omega
       case rel => exact ⟨(wrap64 (x5_1 + 1)), (by rfl), H', ⟨by have := HK1.out; omega⟩, by repeat (first | exact Drawn0.refl _ | apply Drawn0.step)⟩
      ·rw [if_neg c8] at H
       have c8b0 : ((bt a0 x5_1) == (bt a1 x5_1)) = false := beq_eq_false_iff_ne.mpr c8
       have c8b1 : ((bt a0 x5_1) != (bt a1 x5_1)) = true := bne_iff_ne.mpr c8
       obtain rfl := Option.some.inj H
       have p6 : 0 ≤ (x5_1 : Int) := of_decide_eq_true (by (with_reducible assumption))
       have q6 : x5_1 < (a0.size : Int) := of_decide_eq_true (by (with_reducible assumption))
       have hx6 := bt_at a0 x5_1
       replace p6 := eq_true p6
       replace q6 := eq_true q6
       have p7 : 0 ≤ (x5_1 : Int) := of_decide_eq_true (by (with_reducible assumption))
       have q7 : x5_1 < (a1.size : Int) := of_decide_eq_true (by (with_reducible assumption))
       have hx7 := bt_at a1 x5_1
       replace p7 := eq_true p7
       replace q7 := eq_true q7
       go_wp2
       repeat (go_quiet (fail); try go_wp2)
       go_ret
       exact ⟨by rfl, by repeat (first | exact Drawn0.refl _ | apply Drawn0.step)⟩
     ·rw [if_neg c5] at H
      exact absurd H (by simp)
    ·rw [if_neg c4] at H
     have c4b0 : decide (x5_1 < (a1.size : Int)) = false := decide_eq_false c4
     clear c4
     obtain rfl := Option.some.inj H
     go_wp2
     repeat (go_quiet (fail); try go_wp2)
     go_ret
     exact ⟨by rfl, by repeat (first | exact Drawn0.refl _ | apply Drawn0.step)⟩
   ·rw [if_neg c3] at H
    have c3b0 : decide (x5_1 < (a0.size : Int)) = false := decide_eq_false c3
    clear c3
    obtain rfl := Option.some.inj H
    go_wp2
    repeat (go_quiet (fail); try go_wp2)
    go_ret
    exact ⟨by rfl, by repeat (first | exact Drawn0.refl _ | apply Drawn0.step)⟩
def cmp_isNaN_string.f (a0 : ByteArray) : Option (Bool) := some (a0.toList != a0.toList)
set_option maxHeartbeats 8000000 in
set_option maxRecDepth 100000 in
theorem cmp_isNaN_string.calls (a0 : ByteArray) (r : Bool) (w : World) (h : cmp_isNaN_string.f a0 = some r) :
 Calls Try.prog 135 #[.string a0] w fun e w' => e = .returned (.bool r) ∧ Drawn0 w w' := by
 have H : (some (a0.toList != a0.toList)) = some r := h
 clear h
 obtain rfl := Option.some.inj H
 go_enter Try.func135, Try.ntmps135
 go_wp2
 go_ret
 exact ⟨by rfl, by repeat (exact Drawn0.refl _)⟩
def cmp_Less_string.f (a0 : ByteArray) (a1 : ByteArray) : Option (Bool) := (cmp_isNaN_string.f a0).bind fun t245 => (if t245 = true then ((cmp_isNaN_string.f a1).bind fun t246 => (if t246 = true then (some (Op.bytesLess a0.toList a1.toList)) else (some true))) else (some (Op.bytesLess a0.toList a1.toList)))
set_option maxHeartbeats 8000000 in
set_option maxRecDepth 100000 in
theorem cmp_Less_string.calls (a0 : ByteArray) (a1 : ByteArray) (r : Bool) (w : World) (h : cmp_Less_string.f a0 a1 = some r) :
 Calls Try.prog 120 #[.string a0, .string a1] w fun e w' => e = .returned (.bool r) ∧ Drawn0 w w' := by
 have H : ((cmp_isNaN_string.f a0).bind fun t245 => (if t245 = true then ((cmp_isNaN_string.f a1).bind fun t246 => (if t246 = true then (some (Op.bytesLess a0.toList a1.toList)) else (some true))) else (some (Op.bytesLess a0.toList a1.toList)))) = some r := h
 clear h
 replace H := Option.bind_eq_some_iff.mp H
 obtain ⟨t245, A30, H⟩ := H
 replace H : (if t245 = true then ((cmp_isNaN_string.f a1).bind fun t246 => (if t246 = true then (some (Op.bytesLess a0.toList a1.toList)) else (some true))) else (some (Op.bytesLess a0.toList a1.toList))) = some r := H
 have A3 := Ak A30
 clear A30
 by_cases c4 : t245 = true
 ·subst c4
  replace H : ((cmp_isNaN_string.f a1).bind fun t246 => (if t246 = true then (some (Op.bytesLess a0.toList a1.toList)) else (some true))) = some r := by rw [if_pos rfl] at H; exact H
  replace H := Option.bind_eq_some_iff.mp H
  obtain ⟨t246, A50, H⟩ := H
  replace H : (if t246 = true then (some (Op.bytesLess a0.toList a1.toList)) else (some true)) = some r := H
  have A5 := Ak A50
  clear A50
  by_cases c6 : t246 = true
  ·subst c6
   replace H : (some (Op.bytesLess a0.toList a1.toList)) = some r := by rw [if_pos rfl] at H; exact H
   obtain rfl := Option.some.inj H
   go_enter Try.func120, Try.ntmps120
   go_wp2_with (first | ((with_reducible refine gate_callee (f := 135) rfl ?_); refine goesL_ (some 6) rfl rfl Try.func135 (by kernel_rfl) rfl #[.string a0] rfl (by (try simp only [lm]); rfl) ?_; (with_reducible refine (cmp_isNaN_string.calls a0 true _ A3.out).mono ?_); rintro e w' ⟨rfl, ⟨nd, rfl⟩⟩; refine ⟨_, rfl, ?_⟩) | (go_at_call 135; (with_reducible refine (cmp_isNaN_string.calls a1 true _ A5.out).mono ?_); rintro e w' ⟨rfl, ⟨nd, rfl⟩⟩))
   go_ret
   exact ⟨by rfl, by repeat (first | exact Drawn0.refl _ | apply Drawn0.step)⟩
  ·replace c6 := Bool.eq_false_iff.mpr c6
   subst c6
   replace H : (some true) = some r := by rw [if_neg (show ¬ (false = true) by decide)] at H; exact H
   obtain rfl := Option.some.inj H
   go_enter Try.func120, Try.ntmps120
   go_wp2_with (first | ((with_reducible refine gate_callee (f := 135) rfl ?_); refine goesL_ (some 6) rfl rfl Try.func135 (by kernel_rfl) rfl #[.string a0] rfl (by (try simp only [lm]); rfl) ?_; (with_reducible refine (cmp_isNaN_string.calls a0 true _ A3.out).mono ?_); rintro e w' ⟨rfl, ⟨nd, rfl⟩⟩; refine ⟨_, rfl, ?_⟩) | (go_at_call 135; (with_reducible refine (cmp_isNaN_string.calls a1 false _ A5.out).mono ?_); rintro e w' ⟨rfl, ⟨nd, rfl⟩⟩))
   go_ret
   exact ⟨by rfl, by repeat (first | exact Drawn0.refl _ | apply Drawn0.step)⟩
 ·replace c4 := Bool.eq_false_iff.mpr c4
  subst c4
  replace H : (some (Op.bytesLess a0.toList a1.toList)) = some r := by rw [if_neg (show ¬ (false = true) by decide)] at H; exact H
  obtain rfl := Option.some.inj H
  go_enter Try.func120, Try.ntmps120
  go_wp2_with (first | ((with_reducible refine gate_callee (f := 135) rfl ?_); refine goesL_ (some 6) rfl rfl Try.func135 (by kernel_rfl) rfl #[.string a0] rfl (by (try simp only [lm]); rfl) ?_; (with_reducible refine (cmp_isNaN_string.calls a0 false _ A3.out).mono ?_); rintro e w' ⟨rfl, ⟨nd, rfl⟩⟩; refine ⟨_, rfl, ?_⟩))
  go_ret
  exact ⟨by rfl, by repeat (first | exact Drawn0.refl _ | apply Drawn0.step)⟩
def s_isNaNt.f (a0 : ByteArray) : Option (Bool) := some (a0.toList != a0.toList)
set_option maxHeartbeats 8000000 in
set_option maxRecDepth 100000 in
theorem s_isNaNt.calls (a0 : ByteArray) (r : Bool) (w : World) (h : s_isNaNt.f a0 = some r) :
 Calls Try.prog 121 #[.string a0] w fun e w' => e = .returned (.bool r) ∧ Drawn0 w w' := by
 have H : (some (a0.toList != a0.toList)) = some r := h
 clear h
 obtain rfl := Option.some.inj H
 go_enter Try.func121, Try.ntmps121
 go_wp2
 go_ret
 exact ⟨by rfl, by repeat (exact Drawn0.refl _)⟩
def s_BinarySearcht.l0 : Nat → List ByteArray → ByteArray → Int → Int → Int → Option (Int × Bool)
 | 0, _, _, _, _, _ => none
 | k + 1, x0, x1, x6, x7, x8 => if x7 < x8 then (if 0 ≤ (wrap64 ((IntKind.u64.wrap (wrap64 (x7 + x8))) / 2)) then (if (wrap64 ((IntKind.u64.wrap (wrap64 (x7 + x8))) / 2)) < (x0.length : Int) then ((cmp_Less_string.f (rdOf ByteArray.empty x0 (wrap64 ((IntKind.u64.wrap (wrap64 (x7 + x8))) / 2))) x1).bind fun t248 => (if t248 = true then (s_BinarySearcht.l0 k x0 x1 x6 (wrap64 ((wrap64 ((IntKind.u64.wrap (wrap64 (x7 + x8))) / 2)) + 1)) x8) else (s_BinarySearcht.l0 k x0 x1 x6 x7 (wrap64 ((IntKind.u64.wrap (wrap64 (x7 + x8))) / 2))))) else (none)) else (none)) else (if x7 < x6 then (if 0 ≤ x7 then (if x7 < (x0.length : Int) then (if (rdOf ByteArray.empty x0 x7).toList = x1.toList then (some (x7, true)) else ((s_isNaNt.f (rdOf ByteArray.empty x0 x7)).bind fun t251 => (if t251 = true then ((s_isNaNt.f x1).bind fun t252 => (some (x7, t252))) else (some (x7, false))))) else (none)) else (none)) else (some (x7, false)))
def s_BinarySearcht.f (k : Nat) (l0 : List ByteArray) (a1 : ByteArray) : Option (Int × Bool) := s_BinarySearcht.l0 k l0 a1 (l0.length : Int) 0 (l0.length : Int)
theorem s_BinarySearcht.mono_l : ∀ k, (∀ y0 y1 y2 y3 y4, LeO (s_BinarySearcht.l0 k y0 y1 y2 y3 y4) (s_BinarySearcht.l0 (k + 1) y0 y1 y2 y3 y4))
 | 0 => fun _ _ _ _ _ r h => by simp [s_BinarySearcht.l0] at h
 | k + 1 => by
  have ih0 := s_BinarySearcht.mono_l k
  ·intro y0 y1 y2 y3 y4
   unfold s_BinarySearcht.l0
   repeat' first
   | (with_reducible exact ih0 _ _ _ _ _)
   | (with_reducible exact LeO.refl _)
   | (with_reducible refine LeO.ite ?_ ?_)
   | (with_reducible refine LeO.bind ?_ (fun _ => ?_))
theorem s_BinarySearcht.mono : ∀ a0 a1 k, LeO (s_BinarySearcht.f k a0 a1) (s_BinarySearcht.f (k + 1) a0 a1) := by
 intro a0 a1 k
 have ih0 := s_BinarySearcht.mono_l k
 unfold s_BinarySearcht.f
 repeat' first
  | (with_reducible exact ih0 _ _ _ _ _)
set_option maxHeartbeats 8000000 in
set_option maxRecDepth 100000 in
theorem s_BinarySearcht.calls (k : Nat) (A0 : Option Addr) (c0 : Nat) (l0 : List ByteArray) (a1 : ByteArray) (r1 : Int) (r2 : Bool) (w : World) (hr0 : Kd.C Kd.string w A0 l0.length l0) (hc0 : l0.length ≤ c0) (h : s_BinarySearcht.f k l0 a1 = some (r1, r2)) :
 Calls Try.prog 97 #[.slice A0 l0.length c0, .string a1] w fun e w' => e = .returned (.tuple #[.int .i64 r1, .bool r2]) ∧ Drawn0 w w' := by
 have HR0 := Ak hr0
 have HC0 := Ak hc0
 clear hr0 hc0
 have H : (s_BinarySearcht.l0 k l0 a1 (l0.length : Int) 0 (l0.length : Int)) = some (r1, r2) := h
 clear h
 have H' := Ak H
 clear H
 go_enter Try.func97, Try.ntmps97
 go_wp2
 go_loopg [7, 8] k (fun kq v7 v8 w' => ∃ (x7_1 : Int) (x8_1 : Int), v7 = .int .i64 x7_1 ∧ v8 = .int .i64 x8_1 ∧ Aside0 (s_BinarySearcht.l0 kq l0 a1 (l0.length : Int) x7_1 x8_1 = some (r1, r2)) ∧ Aside0 (kq ≤ k) ∧ Drawn0 w w')
 case atStart => exact ⟨(0), ((l0.length : Int)), (by rfl), (by rfl), H', ⟨Nat.le_refl _⟩, by repeat (exact Drawn0.refl _)⟩
 case round =>
  clear H'
  obtain ⟨x7_1, x8_1, rfl, rfl, HA, HK1, ⟨m1, rfl⟩⟩ := hrel
  cases gk with
  | zero => exact absurd HA.out (by simp [s_BinarySearcht.l0])
  | succ k1 =>
   have H := HA.out
   clear HA
   simp only [s_BinarySearcht.l0] at H
   by_cases c3 : x7_1 < x8_1
   ·rw [if_pos c3] at H
    have c3b0 : decide (x7_1 < x8_1) = true := decide_eq_true c3
    clear c3
    obtain ⟨ji4, hji4⟩ : ∃ j_ : Int, (wrap64 ((IntKind.u64.wrap (wrap64 (x7_1 + x8_1))) / 2)) = j_ := ⟨_, rfl⟩
    replace H : (if 0 ≤ (ji4) then (if (ji4) < (l0.length : Int) then ((cmp_Less_string.f (rdOf ByteArray.empty l0 (ji4)) a1).bind fun t248 => (if t248 = true then (s_BinarySearcht.l0 k1 l0 a1 (l0.length : Int) (wrap64 ((ji4) + 1)) x8_1) else (s_BinarySearcht.l0 k1 l0 a1 (l0.length : Int) x7_1 ji4))) else (none)) else (none)) = some (r1, r2) := by (rw [hji4] at H; exact H)
    have hji4w : (IntKind.i64.wrap ((IntKind.u64.wrap (wrap64 (x7_1 + x8_1))) / 2)) = ji4 := (i64_w _).trans hji4
    by_cases c5 : 0 ≤ (ji4)
    ·rw [if_pos c5] at H
     have c5b0 : decide (0 ≤ (ji4)) = true := decide_eq_true c5
     clear c5
     by_cases c6 : (ji4) < (l0.length : Int)
     ·rw [if_pos c6] at H
      have c6b0 : decide ((ji4) < (l0.length : Int)) = true := decide_eq_true c6
      clear c6
      replace H := Option.bind_eq_some_iff.mp H
      obtain ⟨t248, A70, H⟩ := H
      replace H : (if t248 = true then (s_BinarySearcht.l0 k1 l0 a1 (l0.length : Int) (wrap64 ((ji4) + 1)) x8_1) else (s_BinarySearcht.l0 k1 l0 a1 (l0.length : Int) x7_1 ji4)) = some (r1, r2) := H
      have A7 := Ak A70
      clear A70
      by_cases c8 : t248 = true
      ·subst c8
       replace H : (s_BinarySearcht.l0 k1 l0 a1 (l0.length : Int) (wrap64 ((ji4) + 1)) x8_1) = some (r1, r2) := by rw [if_pos rfl] at H; exact H
       have H' := Ak H
       clear H
       have p247 : 0 ≤ ((ji4) : Int) := of_decide_eq_true (by (with_reducible assumption))
       have q247 : (ji4) < (l0.length : Int) := of_decide_eq_true (by (with_reducible assumption))
       obtain ⟨ad247, e247, hx247_0⟩ := Kd.at_string HR0.out (ji4) p247 q247
       cases e247
       replace p247 := eq_true p247
       replace q247 := eq_true q247
       go_wp2_with (first | ((with_reducible refine gate_callee (f := 120) rfl ?_); refine goesL_ (some 27) rfl rfl Try.func120 (by kernel_rfl) rfl #[.string (rdOf ByteArray.empty l0 (ji4)), .string a1] rfl (by (try simp only [lm]); rfl) ?_; (with_reducible refine (cmp_Less_string.calls (rdOf ByteArray.empty l0 (ji4)) a1 true _ A7.out).mono ?_); rintro e w' ⟨rfl, ⟨nd, rfl⟩⟩; refine ⟨_, rfl, ?_⟩))
       go_roundg k1
       case measure => have := HK1.out; omega
       case rel => exact ⟨(wrap64 ((ji4) + 1)), (x8_1), (by rfl), (by rfl), H', ⟨by have := HK1.out; omega⟩, by repeat (first | exact Drawn0.refl _ | apply Drawn0.step)⟩
      ·replace c8 := Bool.eq_false_iff.mpr c8
       subst c8
       replace H : (s_BinarySearcht.l0 k1 l0 a1 (l0.length : Int) x7_1 ji4) = some (r1, r2) := by rw [if_neg (show ¬ (false = true) by decide)] at H; exact H
       have H' := Ak H
       clear H
       have p247 : 0 ≤ ((ji4) : Int) := of_decide_eq_true (by (with_reducible assumption))
       have q247 : (ji4) < (l0.length : Int) := of_decide_eq_true (by (with_reducible assumption))
       obtain ⟨ad247, e247, hx247_0⟩ := Kd.at_string HR0.out (ji4) p247 q247
       cases e247
       replace p247 := eq_true p247
       replace q247 := eq_true q247
       go_wp2_with (first | ((with_reducible refine gate_callee (f := 120) rfl ?_); refine goesL_ (some 27) rfl rfl Try.func120 (by kernel_rfl) rfl #[.string (rdOf ByteArray.empty l0 (ji4)), .string a1] rfl (by (try simp only [lm]); rfl) ?_; (with_reducible refine (cmp_Less_string.calls (rdOf ByteArray.empty l0 (ji4)) a1 false _ A7.out).mono ?_); rintro e w' ⟨rfl, ⟨nd, rfl⟩⟩; refine ⟨_, rfl, ?_⟩))
       go_roundg k1
       case measure => have := HK1.out; omega
       case rel => exact ⟨(x7_1), (ji4), (by rfl), (by rfl), H', ⟨by have := HK1.out; omega⟩, by repeat (first | exact Drawn0.refl _ | apply Drawn0.step)⟩
     ·rw [if_neg c6] at H
      exact absurd H (by simp)
    ·rw [if_neg c5] at H
     exact absurd H (by simp)
   ·rw [if_neg c3] at H
    have c3b0 : decide (x7_1 < x8_1) = false := decide_eq_false c3
    clear c3
    by_cases c9 : x7_1 < (l0.length : Int)
    ·rw [if_pos c9] at H
     have c9b0 : decide (x7_1 < (l0.length : Int)) = true := decide_eq_true c9
     clear c9
     by_cases c10 : 0 ≤ x7_1
     ·rw [if_pos c10] at H
      have c10b0 : decide (0 ≤ x7_1) = true := decide_eq_true c10
      clear c10
      by_cases c11 : x7_1 < (l0.length : Int)
      ·rw [if_pos c11] at H
       have c11b0 : decide (x7_1 < (l0.length : Int)) = true := decide_eq_true c11
       clear c11
       by_cases c12 : (rdOf ByteArray.empty l0 x7_1).toList = a1.toList
       ·rw [if_pos c12] at H
        have c12b0 : ((rdOf ByteArray.empty l0 x7_1).toList == a1.toList) = true := beq_iff_eq.mpr c12
        have c12b1 : ((rdOf ByteArray.empty l0 x7_1).toList != a1.toList) = false := bne_eq_false_iff_eq.mpr c12
        clear c12
        simp only [Option.some.injEq, Prod.mk.injEq] at H
        obtain ⟨rfl, rfl⟩ := H
        have p249 : 0 ≤ (x7_1 : Int) := of_decide_eq_true (by (with_reducible assumption))
        have q249 : x7_1 < (l0.length : Int) := of_decide_eq_true (by (with_reducible assumption))
        obtain ⟨ad249, e249, hx249_0⟩ := Kd.at_string HR0.out x7_1 p249 q249
        cases e249
        replace p249 := eq_true p249
        replace q249 := eq_true q249
        go_wp2
        go_ret2
        exact ⟨by rfl, by repeat (first | exact Drawn0.refl _ | apply Drawn0.step)⟩
       ·rw [if_neg c12] at H
        have c12b0 : ((rdOf ByteArray.empty l0 x7_1).toList == a1.toList) = false := beq_eq_false_iff_ne.mpr c12
        have c12b1 : ((rdOf ByteArray.empty l0 x7_1).toList != a1.toList) = true := bne_iff_ne.mpr c12
        replace H := Option.bind_eq_some_iff.mp H
        obtain ⟨t251, A130, H⟩ := H
        replace H : (if t251 = true then ((s_isNaNt.f a1).bind fun t252 => (some (x7_1, t252))) else (some (x7_1, false))) = some (r1, r2) := H
        have A13 := Ak A130
        clear A130
        by_cases c14 : t251 = true
        ·subst c14
         replace H : ((s_isNaNt.f a1).bind fun t252 => (some (x7_1, t252))) = some (r1, r2) := by rw [if_pos rfl] at H; exact H
         replace H := Option.bind_eq_some_iff.mp H
         obtain ⟨t252, A150, H⟩ := H
         replace H : (some (x7_1, t252)) = some (r1, r2) := H
         have A15 := Ak A150
         clear A150
         simp only [Option.some.injEq, Prod.mk.injEq] at H
         obtain ⟨rfl, rfl⟩ := H
         have p249 : 0 ≤ (x7_1 : Int) := of_decide_eq_true (by (with_reducible assumption))
         have q249 : x7_1 < (l0.length : Int) := of_decide_eq_true (by (with_reducible assumption))
         obtain ⟨ad249, e249, hx249_0⟩ := Kd.at_string HR0.out x7_1 p249 q249
         cases e249
         replace p249 := eq_true p249
         replace q249 := eq_true q249
         have p250 : 0 ≤ (x7_1 : Int) := of_decide_eq_true (by (with_reducible assumption))
         have q250 : x7_1 < (l0.length : Int) := of_decide_eq_true (by (with_reducible assumption))
         obtain ⟨ad250, e250, hx250_0⟩ := Kd.at_string HR0.out x7_1 p250 q250
         obtain rfl : ad249 = ad250 := (by injection e250)
         replace p250 := eq_true p250
         replace q250 := eq_true q250
         go_wp2_with (first | (go_at_call 121; (with_reducible refine (s_isNaNt.calls (rdOf ByteArray.empty l0 x7_1) true _ A13.out).mono ?_); rintro e w' ⟨rfl, ⟨nd, rfl⟩⟩) | (go_at_call 121; (with_reducible refine (s_isNaNt.calls a1 t252 _ A15.out).mono ?_); rintro e w' ⟨rfl, ⟨nd, rfl⟩⟩))
         go_ret2
         exact ⟨by rfl, by repeat (first | exact Drawn0.refl _ | apply Drawn0.step)⟩
        ·replace c14 := Bool.eq_false_iff.mpr c14
         subst c14
         replace H : (some (x7_1, false)) = some (r1, r2) := by rw [if_neg (show ¬ (false = true) by decide)] at H; exact H
         simp only [Option.some.injEq, Prod.mk.injEq] at H
         obtain ⟨rfl, rfl⟩ := H
         have p249 : 0 ≤ (x7_1 : Int) := of_decide_eq_true (by (with_reducible assumption))
         have q249 : x7_1 < (l0.length : Int) := of_decide_eq_true (by (with_reducible assumption))
         obtain ⟨ad249, e249, hx249_0⟩ := Kd.at_string HR0.out x7_1 p249 q249
         cases e249
         replace p249 := eq_true p249
         replace q249 := eq_true q249
         have p250 : 0 ≤ (x7_1 : Int) := of_decide_eq_true (by (with_reducible assumption))
         have q250 : x7_1 < (l0.length : Int) := of_decide_eq_true (by (with_reducible assumption))
         obtain ⟨ad250, e250, hx250_0⟩ := Kd.at_string HR0.out x7_1 p250 q250
         obtain rfl : ad249 = ad250 := (by injection e250)
         replace p250 := eq_true p250
         replace q250 := eq_true q250
         go_wp2_with (first | (go_at_call 121; (with_reducible refine (s_isNaNt.calls (rdOf ByteArray.empty l0 x7_1) false _ A13.out).mono ?_); rintro e w' ⟨rfl, ⟨nd, rfl⟩⟩))
         go_ret2
         exact ⟨by rfl, by repeat (first | exact Drawn0.refl _ | apply Drawn0.step)⟩
      ·rw [if_neg c11] at H
       exact absurd H (by simp)
     ·rw [if_neg c10] at H
      exact absurd H (by simp)
    ·rw [if_neg c9] at H
     have c9b0 : decide (x7_1 < (l0.length : Int)) = false := decide_eq_false c9
     clear c9
     simp only [Option.some.injEq, Prod.mk.injEq] at H
     obtain ⟨rfl, rfl⟩ := H
     go_wp2
     go_ret2
     exact ⟨by rfl, by repeat (first | exact Drawn0.refl _ | apply Drawn0.step)⟩
mutual
def e_encodeTexts.l0 : Nat → List Int → List ByteArray → Int → Int → Option (List Int)
 | 0, _, _, _, _ => none
 | k + 1, x5, x31, x32, x33 => if x33 < x32 then (if 0 ≤ x33 then (if x33 < (x31.length : Int) then ((e_count.f k x5 (IntKind.u64.wrap (((rdOf ByteArray.empty x31 x33).size : Int)))).bind fun t260 => (if t260.length + (rdOf ByteArray.empty x31 x33).size < 140737488355328 then (e_encodeTexts.l0 k (t260 ++ bytesOf (rdOf ByteArray.empty x31 x33)) x31 x32 (wrap64 (x33 + 1))) else (none))) else (none)) else (none)) else (some x5)
def e_encodeTexts.l1 : Nat → List ByteArray → List Int → List ByteArray → ByteArray → Int → Int → Option (List Int)
 | 0, _, _, _, _, _, _ => none
 | k + 1, x1, x5, x8, x9, x58, x59 => if x59 < x58 then (if 0 ≤ x59 then (if x59 < (x8.length : Int) then ((e_common.f k x9 (rdOf ByteArray.empty x8 x59)).bind fun t277 => ((e_count.f k x5 (IntKind.u64.wrap (t277))).bind fun t278 => ((e_count.f k t278 (IntKind.u64.wrap (wrap64 (((rdOf ByteArray.empty x8 x59).size : Int) - t277)))).bind fun t281 => (if 0 ≤ t277 then (if t277 ≤ ((rdOf ByteArray.empty x8 x59).size : Int) then (if t281.length + ((rdOf ByteArray.empty x8 x59).extract (t277 : Int).toNat (rdOf ByteArray.empty x8 x59).size).size < 140737488355328 then (e_encodeTexts.l1 k x1 (t281 ++ bytesOf ((rdOf ByteArray.empty x8 x59).extract (t277 : Int).toNat (rdOf ByteArray.empty x8 x59).size)) x8 (rdOf ByteArray.empty x8 x59) x58 (wrap64 (x59 + 1))) else (none)) else (none)) else (none))))) else (none)) else (none)) else (e_encodeTexts.l2 k x5 x8 ([] : List Int) x1 (x1.length : Int) 0)
def e_encodeTexts.l2 : Nat → List Int → List ByteArray → List Int → List ByteArray → Int → Int → Option (List Int)
 | 0, _, _, _, _, _, _ => none
 | k + 1, x5, x8, x13, x83, x84, x85 => if x85 < x84 then (if 0 ≤ x85 then (if x85 < (x83.length : Int) then ((s_BinarySearcht.f k x8 (rdOf ByteArray.empty x83 x85)).bind fun bt288 => (if x13.length < 17592186044416 then (e_encodeTexts.l2 k x5 x8 (x13 ++ [bt288.1]) x83 x84 (wrap64 (x85 + 1))) else (none))) else (none)) else (none)) else ((e_widthOf.f (wrap64 ((x8.length : Int) - 1))).bind fun t293 => ((e_packed.f k x5 x13 t293).bind fun t294 => (some t294)))
end
def e_encodeTexts.f (k : Nat) (a0 : Int) (l1 : List ByteArray) : Option (List Int) := (e_count.f k (([(a0) % 256] : List Int)) (IntKind.u64.wrap ((l1.length : Int)))).bind fun t256 => (if (l1.length : Int) = 0 then (some t256) else (if a0 = 1 then (e_encodeTexts.l0 k t256 l1 (l1.length : Int) 0) else ((s_Clonet.f l1).bind fun t266 => ((s_Sortt.f t266).bind fun t269 => ((s_Compactt.f t269).bind fun t270 => ((e_count.f k t256 (IntKind.u64.wrap ((t270.length : Int)))).bind fun t273 => (e_encodeTexts.l1 k l1 t273 t270 (⟨#[]⟩ : ByteArray) (t270.length : Int) 0)))))))
theorem e_encodeTexts.mono_l : ∀ k, (∀ y0 y1 y2 y3, LeO (e_encodeTexts.l0 k y0 y1 y2 y3) (e_encodeTexts.l0 (k + 1) y0 y1 y2 y3)) ∧ (∀ y0 y1 y2 y3 y4 y5, LeO (e_encodeTexts.l1 k y0 y1 y2 y3 y4 y5) (e_encodeTexts.l1 (k + 1) y0 y1 y2 y3 y4 y5)) ∧ (∀ y0 y1 y2 y3 y4 y5, LeO (e_encodeTexts.l2 k y0 y1 y2 y3 y4 y5) (e_encodeTexts.l2 (k + 1) y0 y1 y2 y3 y4 y5))
 | 0 => ⟨fun _ _ _ _ r h => by simp [e_encodeTexts.l0] at h, fun _ _ _ _ _ _ r h => by simp [e_encodeTexts.l1] at h, fun _ _ _ _ _ _ r h => by simp [e_encodeTexts.l2] at h⟩
 | k + 1 => by
  obtain ⟨ih0, ih1, ih2⟩ := e_encodeTexts.mono_l k
  refine ⟨?_, ?_, ?_⟩ <;> intros
  all_goals (first | unfold e_encodeTexts.l0 | unfold e_encodeTexts.l1 | unfold e_encodeTexts.l2)
  all_goals
   repeat' first
   | (with_reducible exact ih0 _ _ _ _)
   | (with_reducible exact ih1 _ _ _ _ _ _)
   | (with_reducible exact ih2 _ _ _ _ _ _)
   | (with_reducible exact e_common.mono _ _ _)
   | (with_reducible exact e_count.mono _ _ _)
   | (with_reducible exact e_packed.mono _ _ _ _)
   | (with_reducible exact s_BinarySearcht.mono _ _ _)
   | (with_reducible exact LeO.refl _)
   | (with_reducible refine LeO.ite ?_ ?_)
   | (with_reducible refine LeO.bind ?_ (fun _ => ?_))
theorem e_encodeTexts.mono : ∀ a0 a1 k, LeO (e_encodeTexts.f k a0 a1) (e_encodeTexts.f (k + 1) a0 a1) := by
 intro a0 a1 k
 obtain ⟨ih0, ih1, ih2⟩ := e_encodeTexts.mono_l k
 unfold e_encodeTexts.f
 repeat' first
  | (with_reducible exact ih0 _ _ _ _)
  | (with_reducible exact ih1 _ _ _ _ _ _)
  | (with_reducible exact e_count.mono _ _ _)
  | (with_reducible exact LeO.refl _)
  | (with_reducible refine LeO.ite ?_ ?_)
  | (with_reducible refine LeO.bind ?_ (fun _ => ?_))
set_option maxHeartbeats 8000000 in
set_option maxRecDepth 100000 in
theorem e_encodeTexts.calls (k : Nat) (a0 : Int) (A1 : Option Addr) (c1 : Nat) (l1 : List ByteArray) (r : List Int) (w : World) (hr1 : Kd.C Kd.string w A1 l1.length l1) (hc1 : l1.length ≤ c1) (h : e_encodeTexts.f k a0 l1 = some r) :
 Calls Try.prog 69 #[.int .i64 a0, .slice A1 l1.length c1] w fun e w' => ∃ v0_ : Value, e = .returned (v0_) ∧ Kd.R (Kd.int .u8) 5 w' w.heap.size (fun _ => True) v0_ r ∧ Below w.heap.size w w' := by
 have HR1 := Ak hr1
 have HC1 := Ak hc1
 clear hr1 hc1
 have HB := Ak (Below.refl w.heap.size w)
 have H : ((e_count.f k (([(a0) % 256] : List Int)) (IntKind.u64.wrap ((l1.length : Int)))).bind fun t256 => (if (l1.length : Int) = 0 then (some t256) else (if a0 = 1 then (e_encodeTexts.l0 k t256 l1 (l1.length : Int) 0) else ((s_Clonet.f l1).bind fun t266 => ((s_Sortt.f t266).bind fun t269 => ((s_Compactt.f t269).bind fun t270 => ((e_count.f k t256 (IntKind.u64.wrap ((t270.length : Int)))).bind fun t273 => (e_encodeTexts.l1 k l1 t273 t270 (⟨#[]⟩ : ByteArray) (t270.length : Int) 0)))))))) = some r := h
 clear h
 obtain ⟨y253, hy253⟩ : ∃ y_ : List Int, y_ = (([(a0) % 256] : List Int)) := ⟨_, rfl⟩
 replace H : ((e_count.f k y253 (IntKind.u64.wrap ((l1.length : Int)))).bind fun t256 => (if (l1.length : Int) = 0 then (some t256) else (if a0 = 1 then (e_encodeTexts.l0 k t256 l1 (l1.length : Int) 0) else ((s_Clonet.f l1).bind fun t266 => ((s_Sortt.f t266).bind fun t269 => ((s_Compactt.f t269).bind fun t270 => ((e_count.f k t256 (IntKind.u64.wrap ((t270.length : Int)))).bind fun t273 => (e_encodeTexts.l1 k l1 t273 t270 (⟨#[]⟩ : ByteArray) (t270.length : Int) 0)))))))) = some r := by (rw [hy253]; with_reducible exact H)
 have Ny253 := Ak hy253
 clear hy253
 replace H := Option.bind_eq_some_iff.mp H
 obtain ⟨t256, A30, H⟩ := H
 replace H : (if (l1.length : Int) = 0 then (some t256) else (if a0 = 1 then (e_encodeTexts.l0 k t256 l1 (l1.length : Int) 0) else ((s_Clonet.f l1).bind fun t266 => ((s_Sortt.f t266).bind fun t269 => ((s_Compactt.f t269).bind fun t270 => ((e_count.f k t256 (IntKind.u64.wrap ((t270.length : Int)))).bind fun t273 => (e_encodeTexts.l1 k l1 t273 t270 (⟨#[]⟩ : ByteArray) (t270.length : Int) 0))))))) = some r := H
 have A3 := Ak A30
 clear A30
 by_cases c4 : (l1.length : Int) = 0
 ·rw [if_pos c4] at H
  have c4b0 : ((l1.length : Int) == 0) = true := beq_iff_eq.mpr c4
  have c4b1 : ((l1.length : Int) != 0) = false := bne_eq_false_iff_eq.mpr c4
  clear c4
  obtain rfl := Option.some.inj H
  go_enter Try.func69, Try.ntmps69
  go_wp2_with (first | ((with_reducible refine gate_dst (N := 20) rfl ?_); refine Kd.R_lit (Kd.int .u8) _ 5 ?hg (N := 20) ?hd (xs := ([(a0) % 256] : List Int)) (inner := [.int .u8 ((a0) % 256)]) (ok := fun _ => True) (okp := fun _ => True) ?hr ?hp (fun _ hk => hk) trivial (Below.refl _ _) (Nat.le_refl _) (by simp) ?_; (case hd => rfl); (case hg => rfl); (case hr => (go_simp; done)); (case hp => exact (Reps.one (show Kd.M (Kd.int .u8) _ _ _ ((a0) % 256) [.int .u8 ((a0) % 256)] from rfl) (Reps.none _ _))); intro v254 w5 ho6 hb hg_ hnew_; clear hg_ hnew_; (rw [← Ny253.out] at ho6); have n0_ := Ak (Kd.R_lower ho6 (below_size (by exact HB.out))); have n1_ := Ak (below_step (by exact HB.out) hb); clear HB; have HO255 := n0_; have HB := n1_; clear n0_ n1_ hb ho6; obtain ⟨Ao7, co7, eo7⟩ := Kd.R_slice HO255.out; subst eo7) | ((with_reducible refine gate_callee (f := 74) rfl ?_); refine goesL_ (some 24) rfl rfl Try.func74 (by kernel_rfl) rfl #[.slice Ao7 y253.length co7, .int .u64 (IntKind.u64.wrap ((l1.length : Int)))] rfl (by (try simp only [lm]); rfl) ?_; (with_reducible refine (e_count.calls k (fun k_ => some k_ = (.slice Ao7 y253.length co7 : Value).ownBlock) (.slice Ao7 y253.length co7) y253 (IntKind.u64.wrap ((l1.length : Int))) t256 w _ ?side1 ?side2 A3.out).mono ?_); (case side1 => exact HB.out); (case side2 => exact Kd.R_tight rfl HO255.out); rintro e w8 ⟨v257, rfl, ho0, hb, hkp⟩; refine ⟨_, rfl, ?_⟩; have n0_ := Ak (Kd.R_mono (ok' := fun k_ => True) ho0 (fun k_ hk_ => trivial)); have n1_ := Ak (hb); clear HB HO255; have HO258 := n0_; have HB := n1_; clear n0_ n1_; (try clear hb); (try clear hkp); (try clear ho0)))
  go_ret
  exact ⟨_, by rfl, by exact HO258.out, by exact HB.out⟩
 ·rw [if_neg c4] at H
  have c4b0 : ((l1.length : Int) == 0) = false := beq_eq_false_iff_ne.mpr c4
  have c4b1 : ((l1.length : Int) != 0) = true := bne_iff_ne.mpr c4
  have c4b2 : ¬ (l1 = []) := fun h_ => c4 (by rw [h_]; rfl)
  by_cases c9 : a0 = 1
  ·rw [if_pos c9] at H
   have c9b0 : (a0 == 1) = true := beq_iff_eq.mpr c9
   have c9b1 : (a0 != 1) = false := bne_eq_false_iff_eq.mpr c9
   clear c9
   have H' := Ak H
   clear H
   go_enter Try.func69, Try.ntmps69
   go_wp2_with (first | ((with_reducible refine gate_dst (N := 20) rfl ?_); refine Kd.R_lit (Kd.int .u8) _ 5 ?hg (N := 20) ?hd (xs := ([(a0) % 256] : List Int)) (inner := [.int .u8 ((a0) % 256)]) (ok := fun _ => True) (okp := fun _ => True) ?hr ?hp (fun _ hk => hk) trivial (Below.refl _ _) (Nat.le_refl _) (by simp) ?_; (case hd => rfl); (case hg => rfl); (case hr => (go_simp; done)); (case hp => exact (Reps.one (show Kd.M (Kd.int .u8) _ _ _ ((a0) % 256) [.int .u8 ((a0) % 256)] from rfl) (Reps.none _ _))); intro v254 w10 ho11 hb hg_ hnew_; clear hg_ hnew_; (rw [← Ny253.out] at ho11); have n0_ := Ak (Kd.R_lower ho11 (below_size (by exact HB.out))); have n1_ := Ak (below_step (by exact HB.out) hb); clear HB; have HO255 := n0_; have HB := n1_; clear n0_ n1_ hb ho11; obtain ⟨Ao12, co12, eo12⟩ := Kd.R_slice HO255.out; subst eo12) | ((with_reducible refine gate_callee (f := 74) rfl ?_); refine goesL_ (some 24) rfl rfl Try.func74 (by kernel_rfl) rfl #[.slice Ao12 y253.length co12, .int .u64 (IntKind.u64.wrap ((l1.length : Int)))] rfl (by (try simp only [lm]); rfl) ?_; (with_reducible refine (e_count.calls k (fun k_ => some k_ = (.slice Ao12 y253.length co12 : Value).ownBlock) (.slice Ao12 y253.length co12) y253 (IntKind.u64.wrap ((l1.length : Int))) t256 w _ ?side1 ?side2 A3.out).mono ?_); (case side1 => exact HB.out); (case side2 => exact Kd.R_tight rfl HO255.out); rintro e w13 ⟨v257, rfl, ho0, hb, hkp⟩; refine ⟨_, rfl, ?_⟩; have n0_ := Ak (Kd.R_mono (ok' := fun k_ => True) ho0 (fun k_ hk_ => trivial)); have n1_ := Ak (hb); clear HB HO255; have HO258 := n0_; have HB := n1_; clear n0_ n1_; (try clear hb); (try clear hkp); (try clear ho0)))
   go_loopg [5, 33] k (fun kq v5 v33 w' => ∃ (x5_1 : List Int) (x33_1 : Int), v33 = .int .i64 x33_1 ∧ Aside0 (e_encodeTexts.l0 kq x5_1 l1 (l1.length : Int) x33_1 = some r) ∧ Aside0 (kq ≤ k) ∧ Aside0 (Kd.R (Kd.int .u8) 5 w' w.heap.size (fun _ => True) v5 x5_1) ∧ Aside0 (Below w.heap.size w w'))
   case atStart => exact ⟨(t256), (0), (by rfl), H', ⟨Nat.le_refl _⟩, ⟨by exact HO258.out⟩, ⟨by exact HB.out⟩⟩
   case round =>
    clear H'
    try clear c4
    try clear c4b0
    try clear c4b1
    try clear c4b2
    try clear c9b0
    try clear c9b1
    obtain ⟨x5_1, x33_1, rfl, HA, HK1, HO_5, HB⟩ := hrel
    cases gk with
    | zero => exact absurd HA.out (by simp [e_encodeTexts.l0])
    | succ k1 =>
     have H := HA.out
     clear HA
     simp only [e_encodeTexts.l0] at H
     by_cases c14 : x33_1 < (l1.length : Int)
     ·rw [if_pos c14] at H
      have c14b0 : decide (x33_1 < (l1.length : Int)) = true := decide_eq_true c14
      clear c14
      by_cases c15 : 0 ≤ x33_1
      ·rw [if_pos c15] at H
       have c15b0 : decide (0 ≤ x33_1) = true := decide_eq_true c15
       clear c15
       by_cases c16 : x33_1 < (l1.length : Int)
       ·rw [if_pos c16] at H
        have c16b0 : decide (x33_1 < (l1.length : Int)) = true := decide_eq_true c16
        clear c16
        replace H := Option.bind_eq_some_iff.mp H
        obtain ⟨t260, A170, H⟩ := H
        replace H : (if t260.length + (rdOf ByteArray.empty l1 x33_1).size < 140737488355328 then (e_encodeTexts.l0 k1 (t260 ++ bytesOf (rdOf ByteArray.empty l1 x33_1)) l1 (l1.length : Int) (wrap64 (x33_1 + 1))) else (none)) = some r := H
        have A17 := Ak A170
        clear A170
        by_cases c18 : t260.length + (rdOf ByteArray.empty l1 x33_1).size < 140737488355328
        ·rw [if_pos c18] at H
         have LMc18 := Ak c18
         clear c18
         obtain ⟨y263, hy263⟩ : ∃ y_ : List Int, y_ = (t260 ++ bytesOf (rdOf ByteArray.empty l1 x33_1)) := ⟨_, rfl⟩
         replace H : (e_encodeTexts.l0 k1 y263 l1 (l1.length : Int) (wrap64 (x33_1 + 1))) = some r := by (rw [hy263]; with_reducible exact H)
         have Ny263 := Ak hy263
         clear hy263
         have H' := Ak H
         clear H
         have p259 : 0 ≤ (x33_1 : Int) := of_decide_eq_true (by (with_reducible assumption))
         have q259 : x33_1 < (l1.length : Int) := of_decide_eq_true (by (with_reducible assumption))
         obtain ⟨ad259, e259, hx259_0⟩ := Kd.at_string HR1.out x33_1 p259 q259
         cases e259
         replace hx259_0 := (HB.out.cell (World.block_lt_of_cell? w _ hx259_0)).trans hx259_0
         replace p259 := eq_true p259
         replace q259 := eq_true q259
         obtain ⟨Ao19, co19, eo19⟩ := Kd.R_slice HO_5.out
         subst eo19
         go_wp2_with (first | ((with_reducible refine gate_callee (f := 74) rfl ?_); refine goesL_ (some 41) rfl rfl Try.func74 (by kernel_rfl) rfl #[.slice Ao19 x5_1.length co19, .int .u64 (IntKind.u64.wrap (((rdOf ByteArray.empty l1 x33_1).size : Int)))] rfl (by (try simp only [lm]); rfl) ?_; (with_reducible refine (e_count.calls k1 (fun k_ => some k_ = (.slice Ao19 x5_1.length co19 : Value).ownBlock) (.slice Ao19 x5_1.length co19) x5_1 (IntKind.u64.wrap (((rdOf ByteArray.empty l1 x33_1).size : Int))) t260 w _ ?side1 ?side2 A17.out).mono ?_); (case side1 => exact HB.out); (case side2 => exact Kd.R_tight rfl HO_5.out); rintro e w20 ⟨v261, rfl, ho0, hb, hkp⟩; refine ⟨_, rfl, ?_⟩; have n0_ := Ak (Kd.R_mono (ok' := fun k_ => True) ho0 (fun k_ hk_ => trivial)); have n1_ := Ak (hb); clear HB HO_5; have HO262 := n0_; have HB := n1_; clear n0_ n1_; (try clear hb); (try clear hkp); (try clear ho0)) | (at_builtin; refine Kd.R_append_str (w0 := w) w.heap.size rfl (.tmp 41) _ 27 9 5 rfl Try.underlying27 Try.underlying9 info5 v261 t260 (rdOf ByteArray.empty l1 x33_1) (fun _ => True) rfl (by rfl) ?aF ?aO ?aB ?aS ?aL ?_; (case aB => exact (by exact HB.out)); (case aF => exact (fun _ _ => trivial)); (case aO => exact (by exact HO262.out)); (case aS => exact (below_size (by exact HB.out))); (case aL => have := LMc18.out; omega); intro v264 w21 ho hb hg hat; rw [← Ny263.out] at ho; have n0_ := Ak (hb); have n1_ := Ak (ho); clear HB HO262; have HB := n0_; have HO265 := n1_; clear n0_ n1_ ho hb hg hat))
         go_roundg k1
         case measure => have := HK1.out; omega
         case rel => exact ⟨(y263), (wrap64 (x33_1 + 1)), (by rfl), H', ⟨by have := HK1.out; omega⟩, ⟨by exact HO265.out⟩, ⟨by exact HB.out⟩⟩
        ·rw [if_neg c18] at H
         exact absurd H (by simp)
       ·rw [if_neg c16] at H
        exact absurd H (by simp)
      ·rw [if_neg c15] at H
       exact absurd H (by simp)
     ·rw [if_neg c14] at H
      have c14b0 : decide (x33_1 < (l1.length : Int)) = false := decide_eq_false c14
      clear c14
      obtain rfl := Option.some.inj H
      go_wp2
      go_ret
      exact ⟨_, by rfl, by exact HO_5.out, by exact HB.out⟩
  ·rw [if_neg c9] at H
   have c9b0 : (a0 == 1) = false := beq_eq_false_iff_ne.mpr c9
   have c9b1 : (a0 != 1) = true := bne_iff_ne.mpr c9
   replace H := Option.bind_eq_some_iff.mp H
   obtain ⟨t266, A220, H⟩ := H
   replace H : ((s_Sortt.f t266).bind fun t269 => ((s_Compactt.f t269).bind fun t270 => ((e_count.f k t256 (IntKind.u64.wrap ((t270.length : Int)))).bind fun t273 => (e_encodeTexts.l1 k l1 t273 t270 (⟨#[]⟩ : ByteArray) (t270.length : Int) 0)))) = some r := H
   have A22 := Ak A220
   clear A220
   replace H := Option.bind_eq_some_iff.mp H
   obtain ⟨t269, A230, H⟩ := H
   replace H : ((s_Compactt.f t269).bind fun t270 => ((e_count.f k t256 (IntKind.u64.wrap ((t270.length : Int)))).bind fun t273 => (e_encodeTexts.l1 k l1 t273 t270 (⟨#[]⟩ : ByteArray) (t270.length : Int) 0))) = some r := H
   have A23 := Ak A230
   clear A230
   replace H := Option.bind_eq_some_iff.mp H
   obtain ⟨t270, A240, H⟩ := H
   replace H : ((e_count.f k t256 (IntKind.u64.wrap ((t270.length : Int)))).bind fun t273 => (e_encodeTexts.l1 k l1 t273 t270 (⟨#[]⟩ : ByteArray) (t270.length : Int) 0)) = some r := H
   have A24 := Ak A240
   clear A240
   replace H := Option.bind_eq_some_iff.mp H
   obtain ⟨t273, A250, H⟩ := H
   replace H : (e_encodeTexts.l1 k l1 t273 t270 (⟨#[]⟩ : ByteArray) (t270.length : Int) 0) = some r := H
   have A25 := Ak A250
   clear A250
   have H' := Ak H
   clear H
   go_enter Try.func69, Try.ntmps69
   go_wp2_with (first | ((with_reducible refine gate_dst (N := 20) rfl ?_); refine Kd.R_lit (Kd.int .u8) _ 5 ?hg (N := 20) ?hd (xs := ([(a0) % 256] : List Int)) (inner := [.int .u8 ((a0) % 256)]) (ok := fun _ => True) (okp := fun _ => True) ?hr ?hp (fun _ hk => hk) trivial (Below.refl _ _) (Nat.le_refl _) (by simp) ?_; (case hd => rfl); (case hg => rfl); (case hr => (go_simp; done)); (case hp => exact (Reps.one (show Kd.M (Kd.int .u8) _ _ _ ((a0) % 256) [.int .u8 ((a0) % 256)] from rfl) (Reps.none _ _))); intro v254 w26 ho27 hb hg_ hnew_; clear hg_ hnew_; (rw [← Ny253.out] at ho27); have n0_ := Ak (Kd.R_lower ho27 (below_size (by exact HB.out))); have n1_ := Ak (below_step (by exact HB.out) hb); clear HB; have HO255 := n0_; have HB := n1_; clear n0_ n1_ hb ho27; obtain ⟨Ao28, co28, eo28⟩ := Kd.R_slice HO255.out; subst eo28) | ((with_reducible refine gate_callee (f := 74) rfl ?_); refine goesL_ (some 24) rfl rfl Try.func74 (by kernel_rfl) rfl #[.slice Ao28 y253.length co28, .int .u64 (IntKind.u64.wrap ((l1.length : Int)))] rfl (by (try simp only [lm]); rfl) ?_; (with_reducible refine (e_count.calls k (fun k_ => some k_ = (.slice Ao28 y253.length co28 : Value).ownBlock) (.slice Ao28 y253.length co28) y253 (IntKind.u64.wrap ((l1.length : Int))) t256 w _ ?side1 ?side2 A3.out).mono ?_); (case side1 => exact HB.out); (case side2 => exact Kd.R_tight rfl HO255.out); rintro e w29 ⟨v257, rfl, ho0, hb, hkp⟩; refine ⟨_, rfl, ?_⟩; have n0_ := Ak (Kd.R_mono (ok' := fun k_ => True) ho0 (fun k_ hk_ => trivial)); have n1_ := Ak (hb); clear HB HO255; have HO258 := n0_; have HB := n1_; clear n0_ n1_; (try clear hb); (try clear hkp); (try clear ho0)) | ((with_reducible refine gate_callee (f := 93) rfl ?_); refine goesL_ (some 47) rfl rfl Try.func93 (by kernel_rfl) rfl #[.slice A1 l1.length c1] rfl (by (try simp only [lm]); rfl) ?_; (with_reducible refine (s_Clonet.calls _ _ l1 t266 _ ?side1 ?side2 A22.out).mono ?_); (case side1 => repeat (exact (Kd.C_below HR1.out HB.out))); (case side2 => exact HC1.out); rintro e w30 ⟨v267, rfl, ho0, hb⟩; refine ⟨_, rfl, ?_⟩; have n0_ := Ak (Kd.R_below (by exact HO258.out) hb); have n1_ := Ak (Kd.R_lower ho0 (below_size (by exact HB.out))); have n2_ := Ak (below_step (by exact HB.out) hb); clear HO258 HB; have HO258 := n0_; have HO268 := n1_; have HB := n2_; clear n0_ n1_ n2_; (try clear hb); (try clear ho0); obtain ⟨Ao31, co31, eo31⟩ := Kd.R_slice HO268.out; subst eo31) | ((with_reducible refine gate_callee (f := 94) rfl ?_); refine goesL_ (some 49) rfl rfl Try.func94 (by kernel_rfl) rfl #[.slice Ao31 t266.length co31] rfl (by (try simp only [lm]); rfl) ?_; (with_reducible refine (s_Sortt.calls (fun k_ => some k_ = (.slice Ao31 t266.length co31 : Value).ownBlock) (.slice Ao31 t266.length co31) t266 t269 w _ ?side1 ?side2 A23.out).mono ?_); (case side1 => exact HB.out); (case side2 => exact Kd.R_tight rfl HO268.out); rintro e w32 ⟨rfl, hy0, hb, hkp⟩; refine ⟨_, rfl, ?_⟩; have n0_ := Ak (Kd.R_mono (ok' := fun k_ => True) (Kd.R_keptB ((Kd.R_apart' HO258.out (Kd.R_typed HO268.out) (by decide))) hkp (fun k_ hk_ hs_ => (hk_.2) hs_)) (fun k_ hk_ => trivial)); have n1_ := Ak (Kd.R_reok rfl hy0 (fun k_ e_ => HO268.out.1 k_ e_)); have n2_ := Ak (hb); clear HO258 HO268 HB; have HO258 := n0_; have HO268 := n1_; have HB := n2_; clear n0_ n1_ n2_; (try clear hb); (try clear hkp); (try clear hy0)) | ((with_reducible refine gate_callee (f := 95) rfl ?_); refine goesL_ (some 51) rfl rfl Try.func95 (by kernel_rfl) rfl #[.slice Ao31 t266.length co31] rfl (by (try simp only [lm]); rfl) ?_; (with_reducible refine (s_Compactt.calls (fun k_ => some k_ = (.slice Ao31 t266.length co31 : Value).ownBlock) (.slice Ao31 t266.length co31) t269 t270 w _ ?side1 ?side2 A24.out).mono ?_); (case side1 => exact HB.out); (case side2 => exact Kd.R_tight rfl HO268.out); rintro e w33 ⟨v271, rfl, ho0, hb, hkp⟩; refine ⟨_, rfl, ?_⟩; have n0_ := Ak (Kd.R_mono (ok' := fun k_ => True) (Kd.R_keptB ((Kd.R_apart' HO258.out (Kd.R_typed HO268.out) (by decide))) hkp (fun k_ hk_ hs_ => (hk_.2) hs_)) (fun k_ hk_ => trivial)); have n1_ := Ak (Kd.R_mono (ok' := fun k_ => True) ho0 (fun k_ hk_ => trivial)); have n2_ := Ak (hb); clear HO258 HB HO268; have HO258 := n0_; have HO272 := n1_; have HB := n2_; clear n0_ n1_ n2_; (try clear hb); (try clear hkp); (try clear ho0); obtain ⟨Ao34, co34, eo34⟩ := Kd.R_slice HO272.out; subst eo34; obtain ⟨Ao35, co35, eo35⟩ := Kd.R_slice HO258.out; subst eo35) | ((with_reducible refine gate_callee (f := 74) rfl ?_); refine goesL_ (some 56) rfl rfl Try.func74 (by kernel_rfl) rfl #[.slice Ao35 t256.length co35, .int .u64 (IntKind.u64.wrap ((t270.length : Int)))] rfl (by (try simp only [lm]); rfl) ?_; (with_reducible refine (e_count.calls k (fun k_ => some k_ = (.slice Ao35 t256.length co35 : Value).ownBlock) (.slice Ao35 t256.length co35) t256 (IntKind.u64.wrap ((t270.length : Int))) t273 w _ ?side1 ?side2 A25.out).mono ?_); (case side1 => exact HB.out); (case side2 => exact Kd.R_tight rfl HO258.out); rintro e w36 ⟨v274, rfl, ho0, hb, hkp⟩; refine ⟨_, rfl, ?_⟩; have n0_ := Ak (Kd.R_mono (ok' := fun k_ => True) (Kd.R_keptB ((Kd.R_apart' HO272.out (Kd.R_typed HO258.out) (by decide))) hkp (fun k_ hk_ hs_ => (hk_.2) hs_)) (fun k_ hk_ => trivial)); have n1_ := Ak (Kd.R_mono (ok' := fun k_ => True) ho0 (fun k_ hk_ => trivial)); have n2_ := Ak (hb); clear HO272 HB HO258; have HO272 := n0_; have HO275 := n1_; have HB := n2_; clear n0_ n1_ n2_; (try clear hb); (try clear hkp); (try clear ho0)))
   go_loopg [5, 9, 59] k (fun kq v5 v9 v59 w' => ∃ (x5_1 : List Int) (x9_1 : ByteArray) (x59_1 : Int), v9 = .string x9_1 ∧ v59 = .int .i64 x59_1 ∧ Aside0 (e_encodeTexts.l1 kq l1 x5_1 t270 x9_1 (t270.length : Int) x59_1 = some r) ∧ Aside0 (kq ≤ k) ∧ Aside0 (Kd.R (Kd.int .u8) 5 w' w.heap.size (fun _ => True) v5 x5_1) ∧ Aside0 (Kd.R Kd.string 9 w' w.heap.size (fun _ => True) (.slice Ao34 t270.length co34) t270) ∧ Aside0 (Below w.heap.size w w'))
   case atStart => exact ⟨(t273), ((⟨#[]⟩ : ByteArray)), (0), (by rfl), (by rfl), H', ⟨Nat.le_refl _⟩, ⟨by exact HO275.out⟩, ⟨by exact HO272.out⟩, ⟨by exact HB.out⟩⟩
   case round =>
    clear H'
    try clear c4
    try clear c4b0
    try clear c4b1
    try clear c4b2
    try clear c9
    try clear c9b0
    try clear c9b1
    obtain ⟨x5_1, x9_1, x59_1, rfl, rfl, HA, HK1, HO_5, HO_8, HB⟩ := hrel
    cases gk with
    | zero => exact absurd HA.out (by simp [e_encodeTexts.l1])
    | succ k1 =>
     have H := HA.out
     clear HA
     simp only [e_encodeTexts.l1] at H
     by_cases c37 : x59_1 < (t270.length : Int)
     ·rw [if_pos c37] at H
      have c37b0 : decide (x59_1 < (t270.length : Int)) = true := decide_eq_true c37
      clear c37
      by_cases c38 : 0 ≤ x59_1
      ·rw [if_pos c38] at H
       have c38b0 : decide (0 ≤ x59_1) = true := decide_eq_true c38
       clear c38
       by_cases c39 : x59_1 < (t270.length : Int)
       ·rw [if_pos c39] at H
        have c39b0 : decide (x59_1 < (t270.length : Int)) = true := decide_eq_true c39
        clear c39
        replace H := Option.bind_eq_some_iff.mp H
        obtain ⟨t277, A400, H⟩ := H
        replace H : ((e_count.f k1 x5_1 (IntKind.u64.wrap (t277))).bind fun t278 => ((e_count.f k1 t278 (IntKind.u64.wrap (wrap64 (((rdOf ByteArray.empty t270 x59_1).size : Int) - t277)))).bind fun t281 => (if 0 ≤ t277 then (if t277 ≤ ((rdOf ByteArray.empty t270 x59_1).size : Int) then (if t281.length + ((rdOf ByteArray.empty t270 x59_1).extract (t277 : Int).toNat (rdOf ByteArray.empty t270 x59_1).size).size < 140737488355328 then (e_encodeTexts.l1 k1 l1 (t281 ++ bytesOf ((rdOf ByteArray.empty t270 x59_1).extract (t277 : Int).toNat (rdOf ByteArray.empty t270 x59_1).size)) t270 (rdOf ByteArray.empty t270 x59_1) (t270.length : Int) (wrap64 (x59_1 + 1))) else (none)) else (none)) else (none)))) = some r := H
        have A40 := Ak A400
        clear A400
        replace H := Option.bind_eq_some_iff.mp H
        obtain ⟨t278, A410, H⟩ := H
        replace H : ((e_count.f k1 t278 (IntKind.u64.wrap (wrap64 (((rdOf ByteArray.empty t270 x59_1).size : Int) - t277)))).bind fun t281 => (if 0 ≤ t277 then (if t277 ≤ ((rdOf ByteArray.empty t270 x59_1).size : Int) then (if t281.length + ((rdOf ByteArray.empty t270 x59_1).extract (t277 : Int).toNat (rdOf ByteArray.empty t270 x59_1).size).size < 140737488355328 then (e_encodeTexts.l1 k1 l1 (t281 ++ bytesOf ((rdOf ByteArray.empty t270 x59_1).extract (t277 : Int).toNat (rdOf ByteArray.empty t270 x59_1).size)) t270 (rdOf ByteArray.empty t270 x59_1) (t270.length : Int) (wrap64 (x59_1 + 1))) else (none)) else (none)) else (none))) = some r := H
        have A41 := Ak A410
        clear A410
        replace H := Option.bind_eq_some_iff.mp H
        obtain ⟨t281, A420, H⟩ := H
        replace H : (if 0 ≤ t277 then (if t277 ≤ ((rdOf ByteArray.empty t270 x59_1).size : Int) then (if t281.length + ((rdOf ByteArray.empty t270 x59_1).extract (t277 : Int).toNat (rdOf ByteArray.empty t270 x59_1).size).size < 140737488355328 then (e_encodeTexts.l1 k1 l1 (t281 ++ bytesOf ((rdOf ByteArray.empty t270 x59_1).extract (t277 : Int).toNat (rdOf ByteArray.empty t270 x59_1).size)) t270 (rdOf ByteArray.empty t270 x59_1) (t270.length : Int) (wrap64 (x59_1 + 1))) else (none)) else (none)) else (none)) = some r := H
        have A42 := Ak A420
        clear A420
        by_cases c43 : 0 ≤ t277
        ·rw [if_pos c43] at H
         have c43b0 := eq_true c43
         have c43b1 : decide (0 ≤ t277) = true := decide_eq_true c43
         clear c43
         by_cases c44 : t277 ≤ ((rdOf ByteArray.empty t270 x59_1).size : Int)
         ·rw [if_pos c44] at H
          have c44b0 := eq_true c44
          have c44b1 : decide (t277 ≤ ((rdOf ByteArray.empty t270 x59_1).size : Int)) = true := decide_eq_true c44
          clear c44
          by_cases c45 : t281.length + ((rdOf ByteArray.empty t270 x59_1).extract (t277 : Int).toNat (rdOf ByteArray.empty t270 x59_1).size).size < 140737488355328
          ·rw [if_pos c45] at H
           have LMc45 := Ak c45
           clear c45
           obtain ⟨y284, hy284⟩ : ∃ y_ : List Int, y_ = (t281 ++ bytesOf ((rdOf ByteArray.empty t270 x59_1).extract (t277 : Int).toNat (rdOf ByteArray.empty t270 x59_1).size)) := ⟨_, rfl⟩
           replace H : (e_encodeTexts.l1 k1 l1 y284 t270 (rdOf ByteArray.empty t270 x59_1) (t270.length : Int) (wrap64 (x59_1 + 1))) = some r := by (rw [hy284]; with_reducible exact H)
           have Ny284 := Ak hy284
           clear hy284
           have H' := Ak H
           clear H
           have p276 : 0 ≤ (x59_1 : Int) := of_decide_eq_true (by (with_reducible assumption))
           have q276 : x59_1 < (t270.length : Int) := of_decide_eq_true (by (with_reducible assumption))
           obtain ⟨ad276, e276, hx276_0⟩ := Kd.at_string (Kd.R_reads' HO_8.out).2.2 x59_1 p276 q276
           cases e276
           replace p276 := eq_true p276
           replace q276 := eq_true q276
           go_wp2_with (first | ((with_reducible refine gate_callee (f := 96) rfl ?_); refine goesL_ (some 65) rfl rfl Try.func96 (by kernel_rfl) rfl #[.string x9_1, .string (rdOf ByteArray.empty t270 x59_1)] rfl (by (try simp only [lm]); rfl) ?_; (with_reducible refine (e_common.calls k1 x9_1 (rdOf ByteArray.empty t270 x59_1) t277 _ A40.out).mono ?_); rintro e w' ⟨rfl, ⟨nd, rfl⟩⟩; refine ⟨_, rfl, ?_⟩; obtain ⟨Ao46, co46, eo46⟩ := Kd.R_slice HO_5.out; subst eo46) | ((with_reducible refine gate_callee (f := 74) rfl ?_); refine goesL_ (some 69) rfl rfl Try.func74 (by kernel_rfl) rfl #[.slice Ao46 x5_1.length co46, .int .u64 (IntKind.u64.wrap (t277))] rfl (by (try simp only [lm]); rfl) ?_; (with_reducible refine (e_count.calls k1 (fun k_ => some k_ = (.slice Ao46 x5_1.length co46 : Value).ownBlock) (.slice Ao46 x5_1.length co46) x5_1 (IntKind.u64.wrap (t277)) t278 w _ ?side1 ?side2 A41.out).mono ?_); (case side1 => repeat ((with_reducible first | exact HB.out | apply pw_below_drewN))); (case side2 => exact Kd.R_tight rfl HO_5.out); rintro e w47 ⟨v279, rfl, ho0, hb, hkp⟩; refine ⟨_, rfl, ?_⟩; have n0_ := Ak (Kd.R_mono (ok' := fun k_ => True) (Kd.R_keptB ((Kd.R_apart' HO_8.out (Kd.R_typed HO_5.out) (by decide))) hkp (fun k_ hk_ hs_ => (hk_.2) hs_)) (fun k_ hk_ => trivial)); have n1_ := Ak (Kd.R_mono (ok' := fun k_ => True) ho0 (fun k_ hk_ => trivial)); have n2_ := Ak (hb); clear HO_8 HB HO_5; have HO_8 := n0_; have HO280 := n1_; have HB := n2_; clear n0_ n1_ n2_; (try clear hb); (try clear hkp); (try clear ho0); obtain ⟨Ao48, co48, eo48⟩ := Kd.R_slice HO280.out; subst eo48) | ((with_reducible refine gate_callee (f := 74) rfl ?_); refine goesL_ (some 75) rfl rfl Try.func74 (by kernel_rfl) rfl #[.slice Ao48 t278.length co48, .int .u64 (IntKind.u64.wrap (wrap64 (((rdOf ByteArray.empty t270 x59_1).size : Int) - t277)))] rfl (by (try simp only [lm]); rfl) ?_; (with_reducible refine (e_count.calls k1 (fun k_ => some k_ = (.slice Ao48 t278.length co48 : Value).ownBlock) (.slice Ao48 t278.length co48) t278 (IntKind.u64.wrap (wrap64 (((rdOf ByteArray.empty t270 x59_1).size : Int) - t277))) t281 w _ ?side1 ?side2 A42.out).mono ?_); (case side1 => exact HB.out); (case side2 => exact Kd.R_tight rfl HO280.out); rintro e w49 ⟨v282, rfl, ho0, hb, hkp⟩; refine ⟨_, rfl, ?_⟩; have n0_ := Ak (Kd.R_mono (ok' := fun k_ => True) (Kd.R_keptB ((Kd.R_apart' HO_8.out (Kd.R_typed HO280.out) (by decide))) hkp (fun k_ hk_ hs_ => (hk_.2) hs_)) (fun k_ hk_ => trivial)); have n1_ := Ak (Kd.R_mono (ok' := fun k_ => True) ho0 (fun k_ hk_ => trivial)); have n2_ := Ak (hb); clear HO_8 HB HO280; have HO_8 := n0_; have HO283 := n1_; have HB := n2_; clear n0_ n1_ n2_; (try clear hb); (try clear hkp); (try clear ho0)) | (at_builtin; refine Kd.R_append_str (w0 := w) w.heap.size rfl (.tmp 76) _ 27 9 5 rfl Try.underlying27 Try.underlying9 info5 v282 t281 ((rdOf ByteArray.empty t270 x59_1).extract (t277 : Int).toNat (rdOf ByteArray.empty t270 x59_1).size) (fun _ => True) rfl (by rfl) ?aF ?aO ?aB ?aS ?aL ?_; (case aB => exact (by exact HB.out)); (case aF => exact (fun _ _ => trivial)); (case aO => exact (by exact HO283.out)); (case aS => exact (below_size (by exact HB.out))); (case aL => have := LMc45.out; omega); intro v285 w50 ho hb hg hat; rw [← Ny284.out] at ho; have n0_ := Ak (Kd.R_over' (by exact HO_8.out) (Kd.R_typed (by exact HO283.out)) (by decide) hg); have n1_ := Ak (hb); have n2_ := Ak (ho); clear HO_8 HB HO283; have HO_8 := n0_; have HB := n1_; have HO286 := n2_; clear n0_ n1_ n2_ ho hb hg hat))
           go_roundg k1
           case measure => have := HK1.out; omega
           case rel => exact ⟨(y284), (rdOf ByteArray.empty t270 x59_1), (wrap64 (x59_1 + 1)), (by rfl), (by rfl), H', ⟨by have := HK1.out; omega⟩, ⟨by exact HO286.out⟩, ⟨by exact HO_8.out⟩, ⟨by exact HB.out⟩⟩
          ·rw [if_neg c45] at H
           exact absurd H (by simp)
         ·rw [if_neg c44] at H
          exact absurd H (by simp)
        ·rw [if_neg c43] at H
         exact absurd H (by simp)
       ·rw [if_neg c39] at H
        exact absurd H (by simp)
      ·rw [if_neg c38] at H
       exact absurd H (by simp)
     ·rw [if_neg c37] at H
      have c37b0 : decide (x59_1 < (t270.length : Int)) = false := decide_eq_false c37
      clear c37
      have H' := Ak H
      clear H
      go_wp2
      go_loopg [13, 85] k1 (fun kq v13 v85 w' => ∃ (x13_2 : List Int) (x85_2 : Int), v85 = .int .i64 x85_2 ∧ Aside0 (e_encodeTexts.l2 kq x5_1 t270 x13_2 l1 (l1.length : Int) x85_2 = some r) ∧ Aside0 (kq ≤ k1) ∧ Aside0 (Kd.R (Kd.int .u8) 5 w' w.heap.size (fun _ => True) u5 x5_1) ∧ Aside0 (Kd.R Kd.string 9 w' w.heap.size (fun _ => True) (.slice Ao34 t270.length co34) t270) ∧ Aside0 (Kd.R (Kd.int .i64) 3 w' w.heap.size (fun _ => True) v13 x13_2) ∧ Aside0 (Below w.heap.size w w'))
      case atStart => exact ⟨(([] : List Int)), (0), (by rfl), H', ⟨Nat.le_refl _⟩, ⟨by exact HO_5.out⟩, ⟨by exact HO_8.out⟩, ⟨by exact Kd.R_nil _ _ _ _ _⟩, ⟨by exact HB.out⟩⟩
      case round =>
       clear H'
       try clear c37b0
       obtain ⟨x13_2, x85_2, rfl, HA, HK2, HO_5, HO_8, HO_13, HB⟩ := hrel
       cases gk with
       | zero => exact absurd HA.out (by simp [e_encodeTexts.l2])
       | succ k2 =>
        have H := HA.out
        clear HA
        simp only [e_encodeTexts.l2] at H
        by_cases c51 : x85_2 < (l1.length : Int)
        ·rw [if_pos c51] at H
         have c51b0 : decide (x85_2 < (l1.length : Int)) = true := decide_eq_true c51
         clear c51
         by_cases c52 : 0 ≤ x85_2
         ·rw [if_pos c52] at H
          have c52b0 : decide (0 ≤ x85_2) = true := decide_eq_true c52
          clear c52
          by_cases c53 : x85_2 < (l1.length : Int)
          ·rw [if_pos c53] at H
           have c53b0 : decide (x85_2 < (l1.length : Int)) = true := decide_eq_true c53
           clear c53
           replace H := Option.bind_eq_some_iff.mp H
           obtain ⟨⟨t288, t289⟩, A540, H⟩ := H
           replace H : (if x13_2.length < 17592186044416 then (e_encodeTexts.l2 k2 x5_1 t270 (x13_2 ++ [t288]) l1 (l1.length : Int) (wrap64 (x85_2 + 1))) else (none)) = some r := H
           have A54 := Ak A540
           clear A540
           by_cases c55 : x13_2.length < 17592186044416
           ·rw [if_pos c55] at H
            have LMc55 := Ak c55
            clear c55
            obtain ⟨y290, hy290⟩ : ∃ y_ : List Int, y_ = (x13_2 ++ [t288]) := ⟨_, rfl⟩
            replace H : (e_encodeTexts.l2 k2 x5_1 t270 y290 l1 (l1.length : Int) (wrap64 (x85_2 + 1))) = some r := by (rw [hy290]; with_reducible exact H)
            have Ny290 := Ak hy290
            clear hy290
            have H' := Ak H
            clear H
            have p287 : 0 ≤ (x85_2 : Int) := of_decide_eq_true (by (with_reducible assumption))
            have q287 : x85_2 < (l1.length : Int) := of_decide_eq_true (by (with_reducible assumption))
            obtain ⟨ad287, e287, hx287_0⟩ := Kd.at_string HR1.out x85_2 p287 q287
            cases e287
            replace hx287_0 := (HB.out.cell (World.block_lt_of_cell? w _ hx287_0)).trans hx287_0
            replace p287 := eq_true p287
            replace q287 := eq_true q287
            go_wp2_with (first | ((with_reducible refine gate_callee (f := 97) rfl ?_); refine goesL_ (some 92) rfl rfl Try.func97 (by kernel_rfl) rfl #[.slice Ao34 t270.length co34, .string (rdOf ByteArray.empty l1 x85_2)] rfl (by (try simp only [lm]); rfl) ?_; (with_reducible refine (s_BinarySearcht.calls k2 _ _ t270 (rdOf ByteArray.empty l1 x85_2) t288 t289 _ ?side1 ?side2 A54.out).mono ?_); (case side1 => repeat (exact (Kd.R_reads' HO_8.out).2.2)); (case side2 => exact (Kd.R_reads' HO_8.out).2.1); rintro e w' ⟨rfl, ⟨nd, rfl⟩⟩; refine ⟨_, rfl, ?_⟩) | ((with_reducible refine gate_builtin (b := .append) (xs := #[.tmp 95, .tmp 97]) rfl ?_); at_builtin; refine Kd.R_append (Kd.int .i64) (w0 := w) w.heap.size rfl (.tmp 95) (.tmp 97) 22 3 (.int .i64 0) 8 rfl Try.underlying22 info3 rfl (by decide) (by omega) u13 x13_2 t288 [.int .i64 t288] (fun _ => True) (fun _ => False) rfl rfl ?aP (fun _ hk => hk.elim) ?aF ?aO ?aB ?aS ?aL ?_; (case aP => exact rfl); (case aB => exact (by repeat ((with_reducible first | exact HB.out | apply pw_below_drewN)))); (case aF => exact (fun _ _ => trivial)); (case aO => exact (by (with_reducible repeat (apply Kd.R_drewN)); exact HO_13.out)); (case aS => exact (below_size (by repeat ((with_reducible first | exact HB.out | apply pw_below_drewN))))); (case aL => have := LMc55.out; omega); intro v291 w56 ho hb hg hat; rw [← Ny290.out] at ho; have n0_ := Ak (Kd.R_over' (by (with_reducible repeat (apply Kd.R_drewN)); exact HO_5.out) (Kd.R_typed (by (with_reducible repeat (apply Kd.R_drewN)); exact HO_13.out)) (by decide) hg); have n1_ := Ak (Kd.R_over' (by (with_reducible repeat (apply Kd.R_drewN)); exact HO_8.out) (Kd.R_typed (by (with_reducible repeat (apply Kd.R_drewN)); exact HO_13.out)) (by decide) hg); have n2_ := Ak (hb); have n3_ := Ak (ho); clear HO_5 HO_8 HB HO_13; have HO_5 := n0_; have HO_8 := n1_; have HB := n2_; have HO292 := n3_; clear n0_ n1_ n2_ n3_ ho hb hg hat))
            go_roundg k2
            case measure => have := HK1.out; have := HK2.out; omega
            case rel => exact ⟨(y290), (wrap64 (x85_2 + 1)), (by rfl), H', ⟨by have := HK1.out; have := HK2.out; omega⟩, ⟨by exact HO_5.out⟩, ⟨by exact HO_8.out⟩, ⟨by exact HO292.out⟩, ⟨by exact HB.out⟩⟩
           ·rw [if_neg c55] at H
            exact absurd H (by simp)
          ·rw [if_neg c53] at H
           exact absurd H (by simp)
         ·rw [if_neg c52] at H
          exact absurd H (by simp)
        ·rw [if_neg c51] at H
         have c51b0 : decide (x85_2 < (l1.length : Int)) = false := decide_eq_false c51
         clear c51
         replace H := Option.bind_eq_some_iff.mp H
         obtain ⟨t293, A570, H⟩ := H
         replace H : ((e_packed.f k2 x5_1 x13_2 t293).bind fun t294 => (some t294)) = some r := H
         have A57 := Ak A570
         clear A570
         replace H := Option.bind_eq_some_iff.mp H
         obtain ⟨t294, A580, H⟩ := H
         replace H : (some t294) = some r := H
         have A58 := Ak A580
         clear A580
         obtain rfl := Option.some.inj H
         go_wp2_with (first | ((with_reducible refine gate_callee (f := 78) rfl ?_); refine goesL_ (some 105) rfl rfl Try.func78 (by kernel_rfl) rfl #[.int .i64 (wrap64 ((t270.length : Int) - 1))] rfl (by (try simp only [lm]); rfl) ?_; (with_reducible refine (e_widthOf.calls (wrap64 ((t270.length : Int) - 1)) t293 _ A57.out).mono ?_); rintro e w' ⟨rfl, ⟨nd, rfl⟩⟩; refine ⟨_, rfl, ?_⟩; obtain ⟨Ao59, co59, eo59⟩ := Kd.R_slice HO_5.out; subst eo59; obtain ⟨Ao60, co60, eo60⟩ := Kd.R_slice HO_13.out; subst eo60) | ((with_reducible refine gate_callee (f := 77) rfl ?_); refine goesL_ (some 106) rfl rfl Try.func77 (by kernel_rfl) rfl #[.slice Ao59 x5_1.length co59, .slice Ao60 x13_2.length co60, .int .i64 t293] rfl (by (try simp only [lm]); rfl) ?_; (with_reducible refine (e_packed.calls k2 (fun k_ => some k_ = (.slice Ao59 x5_1.length co59 : Value).ownBlock) (.slice Ao59 x5_1.length co59) x5_1 _ _ x13_2 t293 t294 w _ ?side1 ?side2 ?side3 ?side4 A58.out).mono ?_); (case side1 => repeat ((with_reducible first | exact HB.out | apply pw_below_drewN))); (case side2 => exact Kd.R_tight rfl HO_5.out); (case side3 => exact Kd.C_kept_own ((Kd.R_apart' HO_13.out (Kd.R_typed HO_5.out) (by decide))) (fun k_ hk_ hs_ => (hk_.2) hs_)); (case side4 => exact (Kd.R_reads' HO_13.out).2.1); rintro e w61 ⟨v295, rfl, ho0, hb, hkp⟩; refine ⟨_, rfl, ?_⟩; have n0_ := Ak (Kd.R_mono (ok' := fun k_ => True) (Kd.R_keptB ((Kd.R_apart' HO_8.out (Kd.R_typed HO_5.out) (by decide))) hkp (fun k_ hk_ hs_ => (hk_.2) hs_)) (fun k_ hk_ => trivial)); have n1_ := Ak (Kd.R_mono (ok' := fun k_ => True) (Kd.R_keptB ((Kd.R_apart' HO_13.out (Kd.R_typed HO_5.out) (by decide))) hkp (fun k_ hk_ hs_ => (hk_.2) hs_)) (fun k_ hk_ => trivial)); have n2_ := Ak (Kd.R_mono (ok' := fun k_ => True) ho0 (fun k_ hk_ => trivial)); have n3_ := Ak (hb); clear HO_8 HO_13 HB HO_5; have HO_8 := n0_; have HO_13 := n1_; have HO296 := n2_; have HB := n3_; clear n0_ n1_ n2_ n3_; (try clear hb); (try clear hkp); (try clear ho0)))
         go_ret
         exact ⟨_, by rfl, by exact HO296.out, by exact HB.out⟩
def e_EncodeTexts.j0 : Nat → Int → List ByteArray → Bool → Option (List Int × Int)
 | 0, _, _, _ => none
 | k + 1, x0, x1, x12 => if x12 = true then (some (([] : List Int), 4)) else ((e_checkTexts.f k x1).bind fun t297 => (if t297 = 0 then ((e_encodeTexts.f k x0 x1).bind fun t298 => (some (t298, 0))) else (some (([] : List Int), t297))))
def e_EncodeTexts.f (k : Nat) (a0 : Int) (l1 : List ByteArray) : Option (List Int × Int) := if a0 = 1 then (e_EncodeTexts.j0 k a0 l1 false) else (e_EncodeTexts.j0 k a0 l1 (a0 != 3))
theorem e_EncodeTexts.mono_l : ∀ k, (∀ y0 y1 y2, LeO (e_EncodeTexts.j0 k y0 y1 y2) (e_EncodeTexts.j0 (k + 1) y0 y1 y2))
 | 0 => fun _ _ _ r h => by simp [e_EncodeTexts.j0] at h
 | k + 1 => by
  have ih0 := e_EncodeTexts.mono_l k
  ·intro y0 y1 y2
   unfold e_EncodeTexts.j0
   repeat' first
   | (with_reducible exact e_checkTexts.mono _ _)
   | (with_reducible exact e_encodeTexts.mono _ _ _)
   | (with_reducible exact LeO.refl _)
   | (with_reducible refine LeO.ite ?_ ?_)
   | (with_reducible refine LeO.bind ?_ (fun _ => ?_))
theorem e_EncodeTexts.mono : ∀ a0 a1 k, LeO (e_EncodeTexts.f k a0 a1) (e_EncodeTexts.f (k + 1) a0 a1) := by
 intro a0 a1 k
 have ih0 := e_EncodeTexts.mono_l k
 unfold e_EncodeTexts.f
 repeat' first
  | (with_reducible exact ih0 _ _ _)
  | (with_reducible refine LeO.ite ?_ ?_)
set_option maxHeartbeats 8000000 in
set_option maxRecDepth 100000 in
theorem e_EncodeTexts.calls (k : Nat) (a0 : Int) (A1 : Option Addr) (c1 : Nat) (l1 : List ByteArray) (r1 : List Int) (r2 : Int) (w : World) (hr1 : Kd.C Kd.string w A1 l1.length l1) (hc1 : l1.length ≤ c1) (h : e_EncodeTexts.f k a0 l1 = some (r1, r2)) :
 Calls Try.prog 35 #[.int .i64 a0, .slice A1 l1.length c1] w fun e w' => ∃ v0_ : Value, e = .returned (.tuple #[v0_, .int .i64 r2]) ∧ Kd.R (Kd.int .u8) 5 w' w.heap.size (fun _ => True) v0_ r1 ∧ Below w.heap.size w w' := by
 have HR1 := Ak hr1
 have HC1 := Ak hc1
 clear hr1 hc1
 have HB := Ak (Below.refl w.heap.size w)
 have H : (if a0 = 1 then (e_EncodeTexts.j0 k a0 l1 false) else (e_EncodeTexts.j0 k a0 l1 (a0 != 3))) = some (r1, r2) := h
 clear h
 have HC3 := Ak H
 clear H
 go_enter Try.func35, Try.ntmps35
 go_upto_region 1 with (fail)
 go_cut [12] (fun v12 wc => ∃ (kq : Nat) (x12_2 : Bool), v12 = .bool x12_2 ∧ Aside0 (e_EncodeTexts.j0 kq a0 l1 x12_2 = some (r1, r2)) ∧ Aside0 (kq ≤ k) ∧ Aside0 (Below w.heap.size w wc))
 case first =>
  have H := HC3.out
  clear HC3
  by_cases c4 : a0 = 1
  ·rw [if_pos c4] at H
   have c4b0 : (a0 == 1) = true := beq_iff_eq.mpr c4
   have c4b1 : (a0 != 1) = false := bne_eq_false_iff_eq.mpr c4
   clear c4
   (skip)
   (try rw [c4b1])
   have H' := Ak H
   clear H
   go_wp2
   go_meet
   case rel => exact ⟨_, (false), (by rfl), H', ⟨by omega⟩, ⟨by exact HB.out⟩⟩
  ·rw [if_neg c4] at H
   have c4b0 : (a0 == 1) = false := beq_eq_false_iff_ne.mpr c4
   have c4b1 : (a0 != 1) = true := bne_iff_ne.mpr c4
   (skip)
   (try rw [c4b1])
   have H' := Ak H
   clear H
   go_wp2
   go_meet
   case rel => exact ⟨_, ((a0 != 3)), (by rfl), H', ⟨by omega⟩, ⟨by exact HB.out⟩⟩
 case rest =>
  clear HC3
  obtain ⟨kq, x12_2, rfl, HA, HJ2, HB⟩ := hcut
  cases kq with
  | zero => exact absurd HA.out (by simp [e_EncodeTexts.j0])
  | succ kj2 =>
   have H := HA.out
   clear HA
   simp only [e_EncodeTexts.j0] at H
   by_cases c5 : x12_2 = true
   ·subst c5
    replace H : (some (([] : List Int), 4)) = some (r1, r2) := by rw [if_pos rfl] at H; exact H
    simp only [Option.some.injEq, Prod.mk.injEq] at H
    obtain ⟨rfl, rfl⟩ := H
    go_wp2
    go_ret2
    exact ⟨_, by rfl, by exact Kd.R_nil _ _ _ _ _, by exact HB.out⟩
   ·replace c5 := Bool.eq_false_iff.mpr c5
    subst c5
    replace H : ((e_checkTexts.f kj2 l1).bind fun t297 => (if t297 = 0 then ((e_encodeTexts.f kj2 a0 l1).bind fun t298 => (some (t298, 0))) else (some (([] : List Int), t297)))) = some (r1, r2) := by rw [if_neg (show ¬ (false = true) by decide)] at H; exact H
    replace H := Option.bind_eq_some_iff.mp H
    obtain ⟨t297, A60, H⟩ := H
    replace H : (if t297 = 0 then ((e_encodeTexts.f kj2 a0 l1).bind fun t298 => (some (t298, 0))) else (some (([] : List Int), t297))) = some (r1, r2) := H
    have A6 := Ak A60
    clear A60
    by_cases c7 : t297 = 0
    ·rw [if_pos c7] at H
     have c7b0 : (t297 == 0) = true := beq_iff_eq.mpr c7
     have c7b1 : (t297 != 0) = false := bne_eq_false_iff_eq.mpr c7
     clear c7
     replace H := Option.bind_eq_some_iff.mp H
     obtain ⟨t298, A80, H⟩ := H
     replace H : (some (t298, 0)) = some (r1, r2) := H
     have A8 := Ak A80
     clear A80
     simp only [Option.some.injEq, Prod.mk.injEq] at H
     obtain ⟨rfl, rfl⟩ := H
     go_wp2_with (first | ((with_reducible refine gate_callee (f := 68) rfl ?_); refine goesL_ (some 14) rfl rfl Try.func68 (by kernel_rfl) rfl #[.slice A1 l1.length c1] rfl (by (try simp only [lm]); rfl) ?_; (with_reducible refine (e_checkTexts.calls kj2 _ _ l1 t297 _ ?side1 ?side2 A6.out).mono ?_); (case side1 => repeat (exact (Kd.C_below HR1.out HB.out))); (case side2 => exact HC1.out); rintro e w9 ⟨rfl, hb⟩; refine ⟨_, rfl, ?_⟩; have n0_ := Ak (below_step (by exact HB.out) hb); clear HB; have HB := n0_; clear n0_; (try clear hb); (try clear hi)) | ((with_reducible refine gate_callee (f := 69) rfl ?_); refine goesL_ (some 20) rfl rfl Try.func69 (by kernel_rfl) rfl #[.int .i64 a0, .slice A1 l1.length c1] rfl (by (try simp only [lm]); rfl) ?_; (with_reducible refine (e_encodeTexts.calls kj2 a0 _ _ l1 t298 _ ?side1 ?side2 A8.out).mono ?_); (case side1 => repeat (exact (Kd.C_below HR1.out HB.out))); (case side2 => exact HC1.out); rintro e w10 ⟨v299, rfl, ho0, hb⟩; refine ⟨_, rfl, ?_⟩; have n0_ := Ak (Kd.R_lower ho0 (below_size (by exact HB.out))); have n1_ := Ak (below_step (by exact HB.out) hb); clear HB; have HO300 := n0_; have HB := n1_; clear n0_ n1_; (try clear hb); (try clear ho0)))
     go_ret2
     exact ⟨_, by rfl, by exact HO300.out, by exact HB.out⟩
    ·rw [if_neg c7] at H
     have c7b0 : (t297 == 0) = false := beq_eq_false_iff_ne.mpr c7
     have c7b1 : (t297 != 0) = true := bne_iff_ne.mpr c7
     simp only [Option.some.injEq, Prod.mk.injEq] at H
     obtain ⟨rfl, rfl⟩ := H
     go_wp2_with (first | ((with_reducible refine gate_callee (f := 68) rfl ?_); refine goesL_ (some 14) rfl rfl Try.func68 (by kernel_rfl) rfl #[.slice A1 l1.length c1] rfl (by (try simp only [lm]); rfl) ?_; (with_reducible refine (e_checkTexts.calls kj2 _ _ l1 t297 _ ?side1 ?side2 A6.out).mono ?_); (case side1 => repeat (exact (Kd.C_below HR1.out HB.out))); (case side2 => exact HC1.out); rintro e w11 ⟨rfl, hb⟩; refine ⟨_, rfl, ?_⟩; have n0_ := Ak (below_step (by exact HB.out) hb); clear HB; have HB := n0_; clear n0_; (try clear hb); (try clear hi)))
     go_ret2
     exact ⟨_, by rfl, by exact Kd.R_nil _ _ _ _ _, by exact HB.out⟩
-- (written by hand)
/-- A state of type 71 at block g of W; what its slices lead to came in by w0. -/
def IsS71 (w0 W : World) (g : Nat) (f0 : List Int) (f1 : Bool) : Prop := ∃ A0 c0, W.heap[g]? = some (.cells #[.slice A0 f0.length c0, .bool f1] 71 (0, 0)) ∧ w0.heap.size ≤ g ∧ (f0.length ≤ c0 ∧ Kd.C (Kd.int .u8) w0 A0 f0.length f0)
theorem IsS71.grown {w0 W : World} {g : Nat} {f0 : List Int} {f1 : Bool} {W1 : World} {row : Option Nat} (h : IsS71 w0 W g f0 f1) (hw : W.grownBy W1 row) (hne : some g ≠ row) : IsS71 w0 W1 g f0 f1 := by
 obtain ⟨A0, c0, hb, hg, hr0⟩ := h
 exact ⟨A0, c0, blk_grown hb hw hne, hg, hr0⟩
theorem IsS71.own_neN {w0 W : World} {g : Nat} {f0 : List Int} {f1 : Bool} {α : Type} {d : Kd α} {e : Nat} {base : Nat} {ok : Nat → Prop} {v : Value} {xs : List α} (h : IsS71 w0 W g f0 f1) (ho : Kd.N d e W base ok v xs) (ht : e ≠ 71) : some g ≠ v.ownBlock := by
 obtain ⟨A0, c0, hb, hg, hr0⟩ := h
 exact Kd.N_ne ho hb ht
theorem IsS71.fresh {w0 W : World} {g : Nat} {f0 : List Int} {f1 : Bool} (h : IsS71 w0 W g f0 f1) : ∀ k, W.heap.size ≤ k → k ≠ g := by
 obtain ⟨A0, c0, hb, hg, hr0⟩ := h
 exact Kd.freshB hb
theorem IsS71.kept {w0 W : World} {g : Nat} {f0 : List Int} {f1 : Bool} {W1 : World} {S : Nat → Prop} (h : IsS71 w0 W g f0 f1) (hk : Kept W W1 S) (hne : ¬ S g) : IsS71 w0 W1 g f0 f1 := by
 obtain ⟨A0, c0, hb, hg, hr0⟩ := h
 exact ⟨A0, c0, blk_kept hb hk hne, hg, hr0⟩
theorem IsS71.below {w0 W : World} {g : Nat} {f0 : List Int} {f1 : Bool} {W1 : World} (h : IsS71 w0 W g f0 f1) (hw : Below W.heap.size W W1) : IsS71 w0 W1 g f0 f1 := h.grown (grown_of_below hw none) (by simp)
theorem IsS71.alloc {w0 W : World} {g : Nat} {f0 : List Int} {f1 : Bool} (h : IsS71 w0 W g f0 f1) (o : Obj) : IsS71 w0 (W.alloc o) g f0 f1 := h.below (below_alloc (Below.refl _ _) o)
theorem IsS71.drewN {w0 W : World} {g : Nat} {f0 : List Int} {f1 : Bool} (h : IsS71 w0 W g f0 f1) (m : Nat) : IsS71 w0 (W.drewN m) g f0 f1 := h
theorem IsS71.drew {w0 W : World} {g : Nat} {f0 : List Int} {f1 : Bool} (h : IsS71 w0 W g f0 f1) : IsS71 w0 W.drew g f0 f1 := h
theorem IsS71.at_ {w0 W : World} {g : Nat} {f0 : List Int} {f1 : Bool} {w' : World} {m : Nat} (hq : W.drewN m = w') (h : IsS71 w0 W g f0 f1) : IsS71 w0 w' g f0 f1 := by subst hq; exact IsS71.drewN h m
theorem IsS71.apart {w0 W : World} {g : Nat} {f0 : List Int} {f1 : Bool} {α : Type} {d : Kd α} {e : Nat} {base : Nat} {ok : Nat → Prop} {v : Value} {xs : List α} (h : IsS71 w0 W g f0 f1) (ho : d.R e W base ok v xs) (ht : ∀ q, q ∈ e :: d.E → q ≠ 71) : d.R e W base (fun k => ok k ∧ k ≠ g) v xs := by
 obtain ⟨A0, c0, hb, hg, hr0⟩ := h
 exact Kd.R_types ho hb ht
theorem IsS71.own_ne {w0 W : World} {g : Nat} {f0 : List Int} {f1 : Bool} {α : Type} {d : Kd α} {e : Nat} {base : Nat} {ok : Nat → Prop} {v : Value} {xs : List α} (h : IsS71 w0 W g f0 f1) (ho : d.R e W base ok v xs) (ht : e ≠ 71) : some g ≠ v.ownBlock := by
 obtain ⟨A0, c0, hb, hg, hr0⟩ := h
 exact Kd.R_ne ho hb ht
theorem IsS71.apartQ {w0 W : World} {g : Nat} {f0 : List Int} {f1 : Bool} {α : Type} {d : Kd α} {e : Nat} {base : Nat} {ok : Nat → Prop} {v : Value} {xs : List α} (h : IsS71 w0 W g f0 f1) (ho : d.Q e W base ok v xs) (ht : ∀ q, q ∈ e :: d.E → q ≠ 71) : d.Q e W base (fun k => ok k ∧ k ≠ g) v xs := by
 obtain ⟨A0, c0, hb, hg, hr0⟩ := h
 exact Kd.Q_types ho hb ht
theorem IsS71.own_neQ {w0 W : World} {g : Nat} {f0 : List Int} {f1 : Bool} {α : Type} {d : Kd α} {e : Nat} {base : Nat} {ok : Nat → Prop} {v : Value} {xs : List α} (h : IsS71 w0 W g f0 f1) (ho : d.Q e W base ok v xs) (ht : e ≠ 71) : some g ≠ v.ownBlock := by
 obtain ⟨A0, c0, hb, hg, hr0⟩ := h
 exact Kd.Q_ne ho hb ht
theorem IsS71.apartS {w0 W : World} {g : Nat} {f0 : List Int} {f1 : Bool} {α : Type} {d : Kd α} {e : Nat} {base : Nat} {ok : Nat → Prop} {v : Value} {xs : List α} (h : IsS71 w0 W g f0 f1) (ho : d.S e W base ok v xs) (ht : ∀ q, q ∈ e :: d.E → q ≠ 71) : d.S e W base (fun k => ok k ∧ k ≠ g) v xs := by
 obtain ⟨A0, c0, hb, hg, hr0⟩ := h
 exact Kd.S_types ho hb ht
theorem IsS71.own_neS {w0 W : World} {g : Nat} {f0 : List Int} {f1 : Bool} {α : Type} {d : Kd α} {e : Nat} {base : Nat} {ok : Nat → Prop} {v : Value} {xs : List α} (h : IsS71 w0 W g f0 f1) (ho : d.S e W base ok v xs) (ht : e ≠ 71) : some g ≠ v.ownBlock := by
 obtain ⟨A0, c0, hb, hg, hr0⟩ := h
 exact Kd.S_ne ho hb ht
theorem IsS71.lt {w0 W : World} {g : Nat} {f0 : List Int} {f1 : Bool} (h : IsS71 w0 W g f0 f1) : g < W.heap.size := by
 obtain ⟨A0, c0, hb, hg, hr0⟩ := h
 exact blk_lt hb
theorem IsS71.ge {w0 W : World} {g : Nat} {f0 : List Int} {f1 : Bool} (h : IsS71 w0 W g f0 f1) : w0.heap.size ≤ g := by
 obtain ⟨A0, c0, hb, hg, hr0⟩ := h
 exact hg
theorem IsS71.ne_blk {w0 W : World} {g : Nat} {f0 : List Int} {f1 : Bool} {a : Nat} {cs : Array Value} {t : TypeId} {fr : Nat × Nat} (h : IsS71 w0 W g f0 f1) (hb2 : W.heap[a]? = some (.cells cs t fr)) (ht : t ≠ 71) : g ≠ a := by
 obtain ⟨A0, c0, hb, hg, hr0⟩ := h
 rintro rfl
 rw [hb] at hb2
 injection hb2 with hb2
 injection hb2 with _ ht2
 exact ht ht2.symm
theorem IsS71.far {w0 W : World} {g : Nat} {f0 : List Int} {f1 : Bool} {p : Addr} (h : IsS71 w0 W g f0 f1) (hne : g ≠ p.block) (u : Value) : IsS71 w0 (W.setCell p u) g f0 f1 := by
 obtain ⟨A0, c0, hb, hg, hr0⟩ := h
 exact ⟨A0, c0, blk_far hb hne u, hg, hr0⟩
theorem cellS71_0 {W : World} {g : Nat} {A0 : Option Addr} {c0 : Nat} {f0 : List Int} {f1 : Bool} (h : W.heap[g]? = some (.cells #[.slice A0 f0.length c0, .bool f1] 71 (0, 0))) : W.cell? ⟨g, 0, none⟩ = some (.slice A0 f0.length c0) := (blk_cell h 0).trans rfl
theorem cellS71_1 {W : World} {g : Nat} {A0 : Option Addr} {c0 : Nat} {f0 : List Int} {f1 : Bool} (h : W.heap[g]? = some (.cells #[.slice A0 f0.length c0, .bool f1] 71 (0, 0))) : W.cell? ⟨g, 1, none⟩ = some (.bool f1) := (blk_cell h 1).trans rfl
theorem IsS71.set_1 {w0 W : World} {g : Nat} {f0 : List Int} {f1 : Bool} (h : IsS71 w0 W g f0 f1) (x : Bool) : IsS71 w0 (W.setCell ⟨g, 1, none⟩ (.bool x)) g f0 x := by
 obtain ⟨A0, c0, hb, hg, hr0⟩ := h
 exact ⟨A0, c0, by simpa using blk_set hb 1 (.bool x), hg, hr0⟩
theorem IsS71.new (w0 W : World) (A0 : Option Addr) (c0 : Nat) (f0 : List Int) (f1 : Bool) (hB : Below w0.heap.size w0 W) (hr0 : (f0.length ≤ c0 ∧ Kd.C (Kd.int .u8) w0 A0 f0.length f0)) : IsS71 w0 (W.alloc (.cells #[.slice A0 f0.length c0, .bool f1] 71)) W.heap.size f0 f1 := ⟨A0, c0, by simpa using heap_alloc_new W _, hB.size, hr0⟩
theorem IsS71.setv_0 {w0 W : World} {g : Nat} {f0 : List Int} {f1 : Bool} (h : IsS71 w0 W g f0 f1) {A : Option Addr} {c : Nat} {l : List Int} (hn : l.length ≤ c ∧ Kd.C (Kd.int .u8) w0 A l.length l) : IsS71 w0 (W.setCell ⟨g, 0, none⟩ (.slice A l.length c)) g l f1 := by
 obtain ⟨A0, c0, hb, hg, hr0⟩ := h
 exact ⟨_, _, by simpa using blk_set hb 0 (.slice A l.length c), hg, hn⟩
theorem IsS71.setw_0 {w0 W : World} {g : Nat} {f0 : List Int} {f1 : Bool} (h : IsS71 w0 W g f0 f1) {A : Option Addr} {n c : Nat} {l : List Int} (hl : l.length = n) (hn : l.length ≤ c ∧ Kd.C (Kd.int .u8) w0 A l.length l) : IsS71 w0 (W.setCell ⟨g, 0, none⟩ (.slice A n c)) g l f1 := by
 subst hl
 exact h.setv_0 hn
def er_byte.f (s0_0 : List Int) (s0_1 : Bool) : Option (Int × List Int × Bool) := some (wrap64 (s0_0.headD 0), s0_0.tail, s0_1 || s0_0.isEmpty)
set_option maxHeartbeats 4000000 in
theorem er_byte.calls (g : Nat) (s0_0 : List Int) (s0_1 : Bool) (r1 : Int) (r2 : List Int) (r3 : Bool) (w0 w : World) (hI : IsS71 w0 w g s0_0 s0_1) (hB : Below w0.heap.size w0 w) (h : er_byte.f s0_0 s0_1 = some (r1, r2, r3)) :
 Calls Try.prog 56 #[.pointer (some ⟨g, 0, none⟩)] w fun e w' => e = .returned (.int .i64 r1) ∧ IsS71 w0 w' g r2 r3 ∧ Below w0.heap.size w0 w' ∧ KeepBut w w' g none := by
 simp only [er_byte.f, Option.some.injEq, Prod.mk.injEq] at h
 obtain ⟨rfl, rfl, rfl⟩ := h
 obtain ⟨A0, c0, hb, hg, hle, hr⟩ := hI
 cases s0_0 with
 | nil =>
  have hc0 : w.cell? ⟨g, 0, none⟩ = some (.slice A0 0 c0) := (blk_cell hb 0).trans rfl
  have hc1 : w.cell? ⟨g, 1, none⟩ = some (.bool s0_1) := (blk_cell hb 1).trans rfl
  have hf1 : w.frozen? ⟨g, 1, none⟩ = false := blk_frozen hb 1
  have A := Ak hb
  have A2 := Ak hr
  clear hb hr
  go_enter Try.func56, Try.ntmps56
  go_wp2
  go_ret
  refine ⟨by simp [wrap64], ?_, below_set hB hg, (KeepBut.refl _ _ _).set_ _ _⟩
  have := IsS71.set_1 (⟨A0, c0, A.out, hg, hle, A2.out⟩ : IsS71 w0 w g [] s0_1) true
  simpa using this
 | cons x l =>
  obtain ⟨b, off, rfl, hc⟩ := C_addr (z := 0) hr (by simp)
  have hx : w0.cell? ⟨b, off, none⟩ = some (.int .u8 x) := by simpa using hc 0 (by simp)
  have hx' : w.cell? ⟨b, off, none⟩ = some (.int .u8 x) := (hB.cell (World.block_lt_of_cell? _ _ hx)).trans hx
  have hc0 : w.cell? ⟨g, 0, none⟩ = some (.slice (some ⟨b, off, none⟩) (l.length + 1) c0) := (blk_cell hb 0).trans rfl
  have hf0 : w.frozen? ⟨g, 0, none⟩ = false := blk_frozen hb 0
  have hle' : l.length + 1 ≤ c0 := hle
  have A := Ak hb
  have A2 := Ak hr
  have A3 := Ak hc
  have A4 := Ak hx
  clear hb hr hc hx
  go_enter Try.func56, Try.ntmps56
  go_wp2
  ·rename_i h1
   go_ret
   obtain rfl : l = [] := List.eq_nil_of_length_eq_zero (by omega)
   refine ⟨by simp, ?_, below_set hB hg, (KeepBut.refl _ _ _).set_ _ _⟩
   refine ⟨some ⟨b, off, none⟩, 0, by simpa using blk_set A.out 0 _, hg, Nat.le_refl _, ?_⟩
   exact Kd.C_of_reads (d := 0) ⟨rfl, by simp, fun h => absurd h (by simp)⟩
  ·rename_i h1
   go_ret
   refine ⟨by simp, ?_, below_set hB hg, (KeepBut.refl _ _ _).set_ _ _⟩
   refine ⟨some ⟨b, off + 1, none⟩, c0 - 1, by simpa using blk_set A.out 0 _, hg, by omega, ?_⟩
   exact C_from (xs := x :: l) A2.out.2.1 A3.out 1
def er_count.l0 : Nat → Int → Int → List Int → Bool → Option (Int × List Int × Bool)
 | 0, _, _, _, _ => none
 | k + 1, x3, x6, x1000, x1001 => if x6 < 8 then ((er_byte.f x1000 x1001).bind fun bt301 => (if 0 ≤ (wrap64 (7 * x6)) then (if bt301.1 < 128 then (some (Go.bits .or .i64 x3 (shl .i64 (Go.bits .and .i64 bt301.1 127) (wrap64 (7 * x6))), bt301.2.1, bt301.2.2)) else (er_count.l0 k (Go.bits .or .i64 x3 (shl .i64 (Go.bits .and .i64 bt301.1 127) (wrap64 (7 * x6)))) (wrap64 (x6 + 1)) bt301.2.1 bt301.2.2)) else (none))) else (some (0, x1000, true))
def er_count.f (k : Nat) (s0_0 : List Int) (s0_1 : Bool) : Option (Int × List Int × Bool) := er_count.l0 k 0 0 s0_0 s0_1
theorem er_count.mono_l : ∀ k, (∀ y0 y1 y2 y3, LeO (er_count.l0 k y0 y1 y2 y3) (er_count.l0 (k + 1) y0 y1 y2 y3))
 | 0 => fun _ _ _ _ r h => by simp [er_count.l0] at h
 | k + 1 => by
  have ih0 := er_count.mono_l k
  ·intro y0 y1 y2 y3
   unfold er_count.l0
   repeat' first
   | (with_reducible exact ih0 _ _ _ _)
   | (with_reducible exact LeO.refl _)
   | (with_reducible refine LeO.ite ?_ ?_)
   | (with_reducible refine LeO.bind ?_ (fun _ => ?_))
theorem er_count.mono : ∀ a0 a1 k, LeO (er_count.f k a0 a1) (er_count.f (k + 1) a0 a1) := by
 intro a0 a1 k
 have ih0 := er_count.mono_l k
 unfold er_count.f
 repeat' first
  | (with_reducible exact ih0 _ _ _ _)
set_option maxHeartbeats 8000000 in
set_option maxRecDepth 100000 in
theorem er_count.calls (k : Nat) (g : Nat) (s0_0 : List Int) (s0_1 : Bool) (r1 : Int) (r2 : List Int) (r3 : Bool) (w0 w : World) (hI : IsS71 w0 w g s0_0 s0_1) (hB : Below w0.heap.size w0 w) (h : er_count.f k s0_0 s0_1 = some (r1, r2, r3)) :
 Calls Try.prog 57 #[.pointer (some ⟨g, 0, none⟩)] w fun e w' => e = .returned (.int .i64 r1) ∧ IsS71 w0 w' g r2 r3 ∧ Below w0.heap.size w0 w' ∧ KeepBut w w' g none := by
 have HI0 := Ak hI
 have HK := Ak (KeepBut.refl w g none)
 have HL := Ak hB.size
 clear hI
 have HW0 := Ak hB.size
 have HB := Ak hB
 have HBZ := Ak hB
 clear hB
 have H : (er_count.l0 k 0 0 s0_0 s0_1) = some (r1, r2, r3) := h
 clear h
 have H' := Ak H
 clear H
 go_enter Try.func57, Try.ntmps57
 go_wp2
 go_loopg [3, 6] k (fun kq v3 v6 w' => ∃ (x3_1 : Int) (x6_1 : Int) (x1000_1 : List Int) (x1001_1 : Bool), v3 = .int .i64 x3_1 ∧ v6 = .int .i64 x6_1 ∧ Aside0 (er_count.l0 kq x3_1 x6_1 x1000_1 x1001_1 = some (r1, r2, r3)) ∧ Aside0 (kq ≤ k) ∧ Aside0 (IsS71 w0 w' g x1000_1 x1001_1) ∧ Aside0 (KeepBut w w' g none) ∧ Aside0 (Below w0.heap.size w0 w'))
 case atStart => exact ⟨(0), (0), (s0_0), (s0_1), (by rfl), (by rfl), H', ⟨Nat.le_refl _⟩, ⟨by exact HI0.out⟩, ⟨by exact HK.out⟩, ⟨by exact HB.out⟩⟩
 case round =>
  clear H'
  obtain ⟨x3_1, x6_1, x1000_1, x1001_1, rfl, rfl, HA, HK1, HI0, HK, HB⟩ := hrel
  cases gk with
  | zero => exact absurd HA.out (by simp [er_count.l0])
  | succ k1 =>
   have H := HA.out
   clear HA
   simp only [er_count.l0] at H
   by_cases c2 : x6_1 < 8
   ·rw [if_pos c2] at H
    have c2b0 : decide (x6_1 < 8) = true := decide_eq_true c2
    clear c2
    replace H := Option.bind_eq_some_iff.mp H
    obtain ⟨⟨t301, t302, t303⟩, A30, H⟩ := H
    replace H : (if 0 ≤ (wrap64 (7 * x6_1)) then (if t301 < 128 then (some (Go.bits .or .i64 x3_1 (shl .i64 (Go.bits .and .i64 t301 127) (wrap64 (7 * x6_1))), t302, t303)) else (er_count.l0 k1 (Go.bits .or .i64 x3_1 (shl .i64 (Go.bits .and .i64 t301 127) (wrap64 (7 * x6_1)))) (wrap64 (x6_1 + 1)) t302 t303)) else (none)) = some (r1, r2, r3) := H
    have A3 := Ak A30
    clear A30
    obtain ⟨ji4, hji4⟩ : ∃ j_ : Int, (wrap64 (7 * x6_1)) = j_ := ⟨_, rfl⟩
    replace H : (if 0 ≤ (ji4) then (if t301 < 128 then (some (Go.bits .or .i64 x3_1 (shl .i64 (Go.bits .and .i64 t301 127) (ji4)), t302, t303)) else (er_count.l0 k1 (Go.bits .or .i64 x3_1 (shl .i64 (Go.bits .and .i64 t301 127) (ji4))) (wrap64 (x6_1 + 1)) t302 t303)) else (none)) = some (r1, r2, r3) := by (rw [hji4] at H; exact H)
    (try rw [hji4] at A3)
    have hji4w : (IntKind.i64.wrap (7 * x6_1)) = ji4 := (i64_w _).trans hji4
    by_cases c5 : 0 ≤ (ji4)
    ·rw [if_pos c5] at H
     have c5b0 := eq_true c5
     have c5b1 : decide (0 ≤ (ji4)) = true := decide_eq_true c5
     clear c5
     obtain ⟨ji6, hji6⟩ : ∃ j_ : Int, (shl .i64 (Go.bits .and .i64 t301 127) (ji4)) = j_ := ⟨_, rfl⟩
     replace H : (if t301 < 128 then (some (Go.bits .or .i64 x3_1 (ji6), t302, t303)) else (er_count.l0 k1 (Go.bits .or .i64 x3_1 (ji6)) (wrap64 (x6_1 + 1)) t302 t303)) = some (r1, r2, r3) := by (rw [hji6] at H; exact H)
     (try rw [hji6] at A3)
     have hji6_ : (IntKind.i64.wrap ((Go.bits .and .i64 t301 127) * 2 ^ min (ji4).toNat 64)) = ji6 := hji6
     have hji6z : (ji4) ≤ 64 → (IntKind.i64.wrap ((Go.bits .and .i64 t301 127) * 2 ^ (ji4).toNat)) = ji6 := shl_small hji6
     have hji6y : (wrap64 ((Go.bits .and .i64 t301 127) * 2 ^ min (ji4).toNat 64)) = ji6 := (i64_w _).symm.trans hji6_
     have hji6x : (ji4) ≤ 64 → (wrap64 ((Go.bits .and .i64 t301 127) * 2 ^ (ji4).toNat)) = ji6 := fun h_ => (i64_w _).symm.trans (hji6z h_)
     by_cases c7 : t301 < 128
     ·rw [if_pos c7] at H
      have c7b0 : decide (t301 < 128) = true := decide_eq_true c7
      clear c7
      simp only [Option.some.injEq, Prod.mk.injEq] at H
      obtain ⟨rfl, rfl, rfl⟩ := H
      go_wp2_with (first | ((with_reducible refine gate_callee (f := 56) rfl ?_); refine goesL_ (some 10) rfl rfl Try.func56 (by kernel_rfl) rfl #[.pointer (some ⟨g, 0, none⟩)] rfl (by (try simp only [lm]); rfl) ?_; (with_reducible refine (er_byte.calls g x1000_1 x1001_1 t301 t302 t303 w0 _ ?side1 ?side2 A3.out).mono ?_); (case side1 => exact HI0.out); (case side2 => exact HB.out); rintro e w8 ⟨rfl, hi, hb, hk⟩; refine ⟨_, rfl, ?_⟩; have n0_ := Ak (KeepBut.trans (by exact HK.out) hk (.inl rfl)); have n1_ := Ak (hb); have n2_ := Ak (hi); clear HK HB HI0; have HK := n0_; have HB := n1_; have HI0 := n2_; clear n0_ n1_ n2_; (try clear hb); (try clear hk); (try clear hi)))
      go_ret
      exact ⟨by rfl, by exact HI0.out, by exact HB.out, by exact HK.out⟩
     ·rw [if_neg c7] at H
      have c7b0 : decide (t301 < 128) = false := decide_eq_false c7
      clear c7
      have H' := Ak H
      clear H
      go_wp2_with (first | ((with_reducible refine gate_callee (f := 56) rfl ?_); refine goesL_ (some 10) rfl rfl Try.func56 (by kernel_rfl) rfl #[.pointer (some ⟨g, 0, none⟩)] rfl (by (try simp only [lm]); rfl) ?_; (with_reducible refine (er_byte.calls g x1000_1 x1001_1 t301 t302 t303 w0 _ ?side1 ?side2 A3.out).mono ?_); (case side1 => exact HI0.out); (case side2 => exact HB.out); rintro e w9 ⟨rfl, hi, hb, hk⟩; refine ⟨_, rfl, ?_⟩; have n0_ := Ak (KeepBut.trans (by exact HK.out) hk (.inl rfl)); have n1_ := Ak (hb); have n2_ := Ak (hi); clear HK HB HI0; have HK := n0_; have HB := n1_; have HI0 := n2_; clear n0_ n1_ n2_; (try clear hb); (try clear hk); (try clear hi)))
      go_roundg k1
      case measure => have := HK1.out; omega
      case rel => exact ⟨(Go.bits .or .i64 x3_1 (ji6)), (wrap64 (x6_1 + 1)), (t302), (t303), (by rfl), (by rfl), H', ⟨by have := HK1.out; omega⟩, ⟨by exact HI0.out⟩, ⟨by exact HK.out⟩, ⟨by exact HB.out⟩⟩
    ·rw [if_neg c5] at H
     exact absurd H (by simp)
   ·rw [if_neg c2] at H
    have c2b0 : decide (x6_1 < 8) = false := decide_eq_false c2
    clear c2
    simp only [Option.some.injEq, Prod.mk.injEq] at H
    obtain ⟨rfl, rfl, rfl⟩ := H
    obtain ⟨ASz10_0, cSz10_0, HGz10, hgz10, HSz10_0⟩ := HI0.out
    have hcz10_0 := cellS71_0 HGz10
    have hcz10_1 := cellS71_1 HGz10
    have hfz10_0 := blk_frozen HGz10 0
    have hfz10_1 := blk_frozen HGz10 1
    have HCSz10_0 := HSz10_0.1
    replace HSz10_0 := HSz10_0.2
    clear HGz10 hgz10
    go_wp2
    go_ret
    exact ⟨by rfl, by repeat ((with_reducible first | exact HI0.out | apply IsS71.set_1)), by repeat ((with_reducible first | exact HB.out | refine below_set ?_ (IsS71.ge HI0.out))), by repeat ((with_reducible first | exact HK.out | apply KeepBut.set_ ))⟩
def bytes_Equal.f (l0 : List Int) (l1 : List Int) : Option (Bool) := some ((strOfNums l0).toList == (strOfNums l1).toList)
set_option maxHeartbeats 8000000 in
set_option maxRecDepth 100000 in
theorem bytes_Equal.calls (A0 : Option Addr) (c0 : Nat) (l0 : List Int) (A1 : Option Addr) (c1 : Nat) (l1 : List Int) (r : Bool) (w : World) (hr0 : Kd.C (Kd.int .u8) w A0 l0.length l0) (hc0 : l0.length ≤ c0) (hr1 : Kd.C (Kd.int .u8) w A1 l1.length l1) (hc1 : l1.length ≤ c1) (h : bytes_Equal.f l0 l1 = some r) :
 Calls Try.prog 58 #[.slice A0 l0.length c0, .slice A1 l1.length c1] w fun e w' => e = .returned (.bool r) ∧ Drawn0 w w' := by
 have HR0 := Ak hr0
 have HC0 := Ak hc0
 clear hr0 hc0
 have HR1 := Ak hr1
 have HC1 := Ak hc1
 clear hr1 hc1
 have H : (some ((strOfNums l0).toList == (strOfNums l1).toList)) = some r := h
 clear h
 obtain rfl := Option.some.inj H
 have hcv3 := Kd.C_string (P := Try.prog) (A := A0) (c := c0) Try.underlying27 Try.underlying5 Try.underlying9 HR0.out
 have hcv4 := Kd.C_string (P := Try.prog) (A := A1) (c := c1) Try.underlying27 Try.underlying5 Try.underlying9 HR1.out
 go_enter Try.func58, Try.ntmps58
 go_wp2
 go_ret
 exact ⟨by rfl, by repeat (exact Drawn0.refl _)⟩
def er_long.f (k : Nat) (s0_0 : List Int) (s0_1 : Bool) : Option (Int × List Int × Bool) := (er_count.f k s0_0 s0_1).bind fun bt304 => (if bt304.1 > 2000 then (some (0, bt304.2.1, true)) else (some (bt304.1, bt304.2.1, bt304.2.2)))
theorem er_long.mono : ∀ a0 a1 k, LeO (er_long.f k a0 a1) (er_long.f (k + 1) a0 a1) := by
 intro a0 a1 k
 unfold er_long.f
 repeat' first
  | (with_reducible exact er_count.mono _ _ _)
  | (with_reducible exact LeO.refl _)
  | (with_reducible refine LeO.bind ?_ (fun _ => ?_))
set_option maxHeartbeats 8000000 in
set_option maxRecDepth 100000 in
theorem er_long.calls (k : Nat) (g : Nat) (s0_0 : List Int) (s0_1 : Bool) (r1 : Int) (r2 : List Int) (r3 : Bool) (w0 w : World) (hI : IsS71 w0 w g s0_0 s0_1) (hB : Below w0.heap.size w0 w) (h : er_long.f k s0_0 s0_1 = some (r1, r2, r3)) :
 Calls Try.prog 79 #[.pointer (some ⟨g, 0, none⟩)] w fun e w' => e = .returned (.int .i64 r1) ∧ IsS71 w0 w' g r2 r3 ∧ Below w0.heap.size w0 w' ∧ KeepBut w w' g none := by
 have HI0 := Ak hI
 have HK := Ak (KeepBut.refl w g none)
 have HL := Ak hB.size
 clear hI
 have HW0 := Ak hB.size
 have HB := Ak hB
 have HBZ := Ak hB
 clear hB
 have H : ((er_count.f k s0_0 s0_1).bind fun bt304 => (if bt304.1 > 2000 then (some (0, bt304.2.1, true)) else (some (bt304.1, bt304.2.1, bt304.2.2)))) = some (r1, r2, r3) := h
 clear h
 replace H := Option.bind_eq_some_iff.mp H
 obtain ⟨⟨t304, t305, t306⟩, A20, H⟩ := H
 replace H : (if t304 > 2000 then (some (0, t305, true)) else (some (t304, t305, t306))) = some (r1, r2, r3) := H
 have A2 := Ak A20
 clear A20
 by_cases c3 : t304 > 2000
 ·rw [if_pos c3] at H
  have c3b0 : decide (2000 < t304) = true := decide_eq_true c3
  clear c3
  simp only [Option.some.injEq, Prod.mk.injEq] at H
  obtain ⟨rfl, rfl, rfl⟩ := H
  go_enter Try.func79, Try.ntmps79
  go_wp2_with (first | ((with_reducible refine gate_callee (f := 57) rfl ?_); refine goesL_ (some 5) rfl rfl Try.func57 (by kernel_rfl) rfl #[.pointer (some ⟨g, 0, none⟩)] rfl (by (try simp only [lm]); rfl) ?_; (with_reducible refine (er_count.calls k g s0_0 s0_1 t304 t305 t306 w0 _ ?side1 ?side2 A2.out).mono ?_); (case side1 => exact HI0.out); (case side2 => exact HB.out); rintro e w4 ⟨rfl, hi, hb, hk⟩; refine ⟨_, rfl, ?_⟩; have n0_ := Ak (KeepBut.trans (by exact HK.out) hk (.inl rfl)); have n1_ := Ak (hb); have n2_ := Ak (hi); clear HK HB HI0; have HK := n0_; have HB := n1_; have HI0 := n2_; clear n0_ n1_ n2_; (try clear hb); (try clear hk); (try clear hi); obtain ⟨ASz5_0, cSz5_0, HGz5, hgz5, HSz5_0⟩ := HI0.out; have hcz5_0 := cellS71_0 HGz5; have hcz5_1 := cellS71_1 HGz5; have hfz5_0 := blk_frozen HGz5 0; have hfz5_1 := blk_frozen HGz5 1; have HCSz5_0 := HSz5_0.1; replace HSz5_0 := HSz5_0.2; clear HGz5 hgz5))
  go_ret
  exact ⟨by rfl, by repeat ((with_reducible first | exact HI0.out | apply IsS71.set_1)), by repeat ((with_reducible first | exact HB.out | refine below_set ?_ (IsS71.ge HI0.out))), by repeat ((with_reducible first | exact HK.out | apply KeepBut.set_ ))⟩
 ·rw [if_neg c3] at H
  have c3b0 : decide (2000 < t304) = false := decide_eq_false c3
  clear c3
  simp only [Option.some.injEq, Prod.mk.injEq] at H
  obtain ⟨rfl, rfl, rfl⟩ := H
  go_enter Try.func79, Try.ntmps79
  go_wp2_with (first | ((with_reducible refine gate_callee (f := 57) rfl ?_); refine goesL_ (some 5) rfl rfl Try.func57 (by kernel_rfl) rfl #[.pointer (some ⟨g, 0, none⟩)] rfl (by (try simp only [lm]); rfl) ?_; (with_reducible refine (er_count.calls k g s0_0 s0_1 t304 t305 t306 w0 _ ?side1 ?side2 A2.out).mono ?_); (case side1 => exact HI0.out); (case side2 => exact HB.out); rintro e w6 ⟨rfl, hi, hb, hk⟩; refine ⟨_, rfl, ?_⟩; have n0_ := Ak (KeepBut.trans (by exact HK.out) hk (.inl rfl)); have n1_ := Ak (hb); have n2_ := Ak (hi); clear HK HB HI0; have HK := n0_; have HB := n1_; have HI0 := n2_; clear n0_ n1_ n2_; (try clear hb); (try clear hk); (try clear hi)))
  go_ret
  exact ⟨by rfl, by exact HI0.out, by exact HB.out, by exact HK.out⟩
def er_text.f (s0_0 : List Int) (s0_1 : Bool) (a1 : Int) : Option (ByteArray × List Int × Bool) := if a1 > (s0_0.length : Int) then (some ((⟨#[]⟩ : ByteArray), s0_0, true)) else (if 0 ≤ a1 then (if a1 ≤ (s0_0.length : Int) then (some (strOfNums (s0_0.take (a1 : Int).toNat), s0_0.drop (a1 : Int).toNat, s0_1)) else (none)) else (none))
set_option maxHeartbeats 8000000 in
set_option maxRecDepth 100000 in
theorem er_text.calls (g : Nat) (s0_0 : List Int) (s0_1 : Bool) (a1 : Int) (r1 : ByteArray) (r2 : List Int) (r3 : Bool) (w0 w : World) (hI : IsS71 w0 w g s0_0 s0_1) (hB : Below w0.heap.size w0 w) (h : er_text.f s0_0 s0_1 a1 = some (r1, r2, r3)) :
 Calls Try.prog 99 #[.pointer (some ⟨g, 0, none⟩), .int .i64 a1] w fun e w' => e = .returned (.string r1) ∧ IsS71 w0 w' g r2 r3 ∧ Below w0.heap.size w0 w' ∧ KeepBut w w' g none := by
 have HI0 := Ak hI
 have HK := Ak (KeepBut.refl w g none)
 have HL := Ak hB.size
 clear hI
 have HW0 := Ak hB.size
 have HB := Ak hB
 have HBZ := Ak hB
 clear hB
 have H : (if a1 > (s0_0.length : Int) then (some ((⟨#[]⟩ : ByteArray), s0_0, true)) else (if 0 ≤ a1 then (if a1 ≤ (s0_0.length : Int) then (some (strOfNums (s0_0.take (a1 : Int).toNat), s0_0.drop (a1 : Int).toNat, s0_1)) else (none)) else (none))) = some (r1, r2, r3) := h
 clear h
 by_cases c3 : a1 > (s0_0.length : Int)
 ·rw [if_pos c3] at H
  have c3b0 : decide ((s0_0.length : Int) < a1) = true := decide_eq_true c3
  clear c3
  simp only [Option.some.injEq, Prod.mk.injEq] at H
  obtain ⟨rfl, rfl, rfl⟩ := H
  obtain ⟨ASz4_0, cSz4_0, HGz4, hgz4, HSz4_0⟩ := HI0.out
  have hcz4_0 := cellS71_0 HGz4
  have hcz4_1 := cellS71_1 HGz4
  have hfz4_0 := blk_frozen HGz4 0
  have hfz4_1 := blk_frozen HGz4 1
  have HCSz4_0 := HSz4_0.1
  replace HSz4_0 := HSz4_0.2
  clear HGz4 hgz4
  go_enter Try.func99, Try.ntmps99
  go_wp2
  go_ret
  exact ⟨by rfl, by repeat ((with_reducible first | exact HI0.out | apply IsS71.set_1)), by repeat ((with_reducible first | exact HB.out | refine below_set ?_ (IsS71.ge HI0.out))), by repeat ((with_reducible first | exact HK.out | apply KeepBut.set_ ))⟩
 ·rw [if_neg c3] at H
  have c3b0 : decide ((s0_0.length : Int) < a1) = false := decide_eq_false c3
  clear c3
  by_cases c5 : 0 ≤ a1
  ·rw [if_pos c5] at H
   have c5b0 := eq_true c5
   have c5b1 : decide (0 ≤ a1) = true := decide_eq_true c5
   clear c5
   by_cases c6 : a1 ≤ (s0_0.length : Int)
   ·rw [if_pos c6] at H
    have c6b0 := eq_true c6
    have c6b1 : decide (a1 ≤ (s0_0.length : Int)) = true := decide_eq_true c6
    clear c6
    have c7b0 := eq_true (of_decide_eq_true (by (with_reducible assumption)) : 0 ≤ a1)
    have c8b0 := eq_true (of_decide_eq_true (by (with_reducible assumption)) : a1 ≤ (s0_0.length : Int))
    simp only [Option.some.injEq, Prod.mk.injEq] at H
    obtain ⟨rfl, rfl, rfl⟩ := H
    obtain ⟨ASz9_0, cSz9_0, HGz9, hgz9, HSz9_0⟩ := HI0.out
    have hcz9_0 := cellS71_0 HGz9
    have hcz9_1 := cellS71_1 HGz9
    have hfz9_0 := blk_frozen HGz9 0
    have hfz9_1 := blk_frozen HGz9 1
    have HCSz9_0 := HSz9_0.1
    replace HSz9_0 := HSz9_0.2
    clear HGz9 hgz9
    have HRs10 := Ak (Kd.C_below HSz9_0 HBZ.out)
    have HCs10 := Ak HCSz9_0
    have hfs10 : ∀ ad : Addr, ASz9_0 = some ad → 0 < s0_0.length → ad.block ≠ g := Kd.far_C 0 HSz9_0 (IsS71.ge HI0.out)
    obtain ⟨i010, hi010, _, hsz10, _⟩ := info_parts info5
    obtain ⟨hcut10, hA10, hC10⟩ := print_take_of (P := Try.prog) (Value.int .u8) 0 27 5 .i64 Try.underlying27 hi010 hsz10 ASz9_0 cSz9_0 s0_0 a1 (of_decide_eq_true (by (with_reducible assumption))) (of_decide_eq_true (by (with_reducible assumption))) HCs10.out
    have HR307 := Ak (Kd.C_of_reads (h1 := fun _ => rfl) (hA10 _ (Kd.reads_of_C HRs10.out)))
    have HC307 := Ak hC10
    have hf307 : ∀ ad : Addr, ASz9_0 = some ad → 0 < (s0_0.take (a1 : Int).toNat).length → ad.block ≠ g := fun ad he h_ => (by cases he; exact Kd.foot_ne (fun W_ hk_ => Kd.C_of_reads (h1 := fun _ => rfl) (hA10 _ (Kd.reads_of_C (Kd.C_foot_ne (fun h => h) HRs10.out hfs10 W_ hk_)))) h_ (by decide))
    clear hA10 hC10 hi010 hsz10
    have hcv11 := Kd.C_string (P := Try.prog) (A := ASz9_0) (c := cSz9_0) Try.underlying27 Try.underlying5 Try.underlying9 (Kd.C_keep 0 HR307.out (by exact HK.out) hf307)
    (try rw [show (s0_0.take (a1 : Int).toNat).length = (a1 : Int).toNat by have h1_ : (0 : Int) ≤ a1 := (of_decide_eq_true (by (with_reducible assumption))); have h2_ : a1 ≤ (s0_0.length : Int) := (of_decide_eq_true (by (with_reducible assumption))); rw [List.length_take]; omega] at hcv11)
    have HRs12 := Ak (Kd.C_below HSz9_0 HBZ.out)
    have HCs12 := Ak HCSz9_0
    have hfs12 : ∀ ad : Addr, ASz9_0 = some ad → 0 < s0_0.length → ad.block ≠ g := Kd.far_C 0 HSz9_0 (IsS71.ge HI0.out)
    obtain ⟨i012, hi012, _, hsz12, _⟩ := info_parts info5
    obtain ⟨A12, hcut12, hA12, hC12⟩ := print_drop_of (P := Try.prog) (Value.int .u8) 0 27 5 .i64 Try.underlying27 hi012 hsz12 ASz9_0 cSz9_0 s0_0 a1 (of_decide_eq_true (by (with_reducible assumption))) (of_decide_eq_true (by (with_reducible assumption))) HCs12.out
    have HR308 := Ak (Kd.C_of_reads (h1 := fun _ => rfl) (hA12 _ (Kd.reads_of_C HRs12.out)))
    have HC308 := Ak hC12
    have hf308 : ∀ ad : Addr, A12 = some ad → 0 < (s0_0.drop (a1 : Int).toNat).length → ad.block ≠ g := fun ad he h_ => (by cases he; exact Kd.foot_ne (fun W_ hk_ => Kd.C_of_reads (h1 := fun _ => rfl) (hA12 _ (Kd.reads_of_C (Kd.C_foot_ne (fun h => h) HRs12.out hfs12 W_ hk_)))) h_ (by decide))
    clear hi012 hsz12
    go_enter Try.func99, Try.ntmps99
    go_wp2
    go_ret
    exact ⟨by rfl, by repeat (exact IsS71.setw_0 (by exact HI0.out) (by simp) ⟨hC12, Kd.C_of_reads (h1 := fun _ => rfl) (hA12 _ (Kd.reads_of_C HSz9_0))⟩), by repeat ((with_reducible first | exact HB.out | refine below_set ?_ (IsS71.ge HI0.out))), by repeat ((with_reducible first | exact HK.out | apply KeepBut.set_ ))⟩
   ·rw [if_neg c6] at H
    exact absurd H (by simp)
  ·rw [if_neg c5] at H
   exact absurd H (by simp)
mutual
def er_packed.l0 : Nat → Int → List Int → Int → Int → Int → List Int → Bool → Option (List Int × List Int × Bool)
 | 0, _, _, _, _, _, _, _ => none
 | k + 1, x2, x7, x8, x27, x28, x1000, x1001 => if x28 < x27 then (er_packed.l1 k x2 x7 x8 x28 x27 x28 x2 0 x1000 x1001) else (some (x7, ([] : List Int), x1001))
def er_packed.l1 : Nat → Int → List Int → Int → Int → Int → Int → Int → Int → List Int → Bool → Option (List Int × List Int × Bool)
 | 0, _, _, _, _, _, _, _, _, _, _ => none
 | k + 1, x2, x7, x8, x9, x27, x28, x31, x32, x1000, x1001 => if x32 < x31 then (if 0 ≤ x9 then (if x9 < (x7.length : Int) then (if 0 ≤ (wrap64 (Int.tdiv x8 8)) then (if (wrap64 (Int.tdiv x8 8)) < (x1000.length : Int) then (if 0 ≤ (wrap64 (7 - (Int.tmod x8 8))) then (er_packed.l1 k x2 (x7.set (x9 : Int).toNat (wrap64 ((wrap64 (2 * (rd x7 x9))) + (wrap64 (Go.bits .and .u8 (shr .u8 (rd x1000 (wrap64 (Int.tdiv x8 8))) (wrap64 (7 - (Int.tmod x8 8)))) 1))))) (wrap64 (x8 + 1)) x9 x27 x28 x31 (wrap64 (x32 + 1)) x1000 x1001) else (none)) else (none)) else (none)) else (none)) else (none)) else (er_packed.l0 k x2 x7 x8 x27 (wrap64 (x28 + 1)) x1000 x1001)
end
def er_packed.f (k : Nat) (s0_0 : List Int) (s0_1 : Bool) (a1 : Int) (a2 : Int) : Option (List Int × List Int × Bool) := if (s0_0.length : Int) = (wrap64 (Int.tdiv (wrap64 ((wrap64 (a1 * a2)) + 7)) 8)) then (if 0 ≤ a1 then (if (a1 : Int).toNat ≤ 35184372088832 then ((some (List.replicate (a1 : Int).toNat 0 : List Int)).bind fun y309 => (er_packed.l0 k a2 y309 0 (y309.length : Int) 0 s0_0 s0_1)) else (none)) else (none)) else (some (([] : List Int), s0_0, true))
theorem er_packed.mono_l : ∀ k, (∀ y0 y1 y2 y3 y4 y5 y6, LeO (er_packed.l0 k y0 y1 y2 y3 y4 y5 y6) (er_packed.l0 (k + 1) y0 y1 y2 y3 y4 y5 y6)) ∧ (∀ y0 y1 y2 y3 y4 y5 y6 y7 y8 y9, LeO (er_packed.l1 k y0 y1 y2 y3 y4 y5 y6 y7 y8 y9) (er_packed.l1 (k + 1) y0 y1 y2 y3 y4 y5 y6 y7 y8 y9))
 | 0 => ⟨fun _ _ _ _ _ _ _ r h => by simp [er_packed.l0] at h, fun _ _ _ _ _ _ _ _ _ _ r h => by simp [er_packed.l1] at h⟩
 | k + 1 => by
  obtain ⟨ih0, ih1⟩ := er_packed.mono_l k
  refine ⟨?_, ?_⟩ <;> intros
  all_goals (first | unfold er_packed.l0 | unfold er_packed.l1)
  all_goals
   repeat' first
   | (with_reducible exact ih0 _ _ _ _ _ _ _)
   | (with_reducible exact ih1 _ _ _ _ _ _ _ _ _ _)
   | (with_reducible exact LeO.refl _)
   | (with_reducible refine LeO.ite ?_ ?_)
theorem er_packed.mono : ∀ a0 a1 a2 a3 k, LeO (er_packed.f k a0 a1 a2 a3) (er_packed.f (k + 1) a0 a1 a2 a3) := by
 intro a0 a1 a2 a3 k
 obtain ⟨ih0, ih1⟩ := er_packed.mono_l k
 unfold er_packed.f
 repeat' first
  | (with_reducible exact ih0 _ _ _ _ _ _ _)
  | (with_reducible exact LeO.refl _)
  | (with_reducible refine LeO.ite ?_ ?_)
  | (with_reducible refine LeO.bind ?_ (fun _ => ?_))
def er_packed.T11 : Bool × List (List Nat × List Nat) := (true, [([], []), ([], []), ([], []), ([], []), ([2, 3], [2, 3]), ([4], [4]), ([5], [5]), ([], []), ([7], [7]), ([8], [8]), ([9], [9]), ([], []), ([11], [11]), ([10, 12], [10, 12]), ([13], [13]), ([], []), ([15], [15]), ([16], [16]), ([14, 17], [14, 17]), ([18], [18]), ([19], [19]), ([6, 20], [6, 20]), ([0, 1, 0, 1, 2, 3, 4, 5, 6, 7, 8, 9, 10, 11, 12, 13, 14, 15, 16, 17, 18, 19, 20, 21], [0, 1]), ([22, 21, 0, 1, 2, 3, 4, 5, 6, 7, 8, 9, 10, 11, 12, 13, 14, 15, 16, 17, 18, 19, 20, 21], [21, 22])])
def er_packed.B11 : List Nat := [0, 0, 0, 0, 12, 28, 60, 0, 128, 384, 896, 0, 2048, 8064, 16256, 0, 32768, 98304, 262016, 524160, 1048448, 2097148, 4194303, 8388607]
theorem er_packed.tab11 : rtab .any (opsOf Try.f114 11) = er_packed.T11 := by kernel_rfl
theorem er_packed.bits11 : waitsOk er_packed.T11.2 er_packed.B11 = true := by kernel_rfl
set_option maxHeartbeats 8000000 in
set_option maxRecDepth 100000 in
theorem er_packed.calls (k : Nat) (g : Nat) (s0_0 : List Int) (s0_1 : Bool) (a1 : Int) (a2 : Int) (r1 : List Int) (r2 : List Int) (r3 : Bool) (w0 w : World) (hI : IsS71 w0 w g s0_0 s0_1) (hB : Below w0.heap.size w0 w) (h : er_packed.f k s0_0 s0_1 a1 a2 = some (r1, r2, r3)) :
 Calls Try.prog 114 #[.pointer (some ⟨g, 0, none⟩), .int .i64 a1, .int .i64 a2] w fun e w' => ∃ v0_ : Value, e = .returned (v0_) ∧ Kd.R (Kd.int .i64) 3 w' w.heap.size (fun _ => True) v0_ r1 ∧ IsS71 w0 w' g r2 r3 ∧ Below w0.heap.size w0 w' ∧ KeepBut w w' g none := by
 have HI0 := Ak hI
 have HK := Ak (KeepBut.refl w g none)
 have HL := Ak hB.size
 clear hI
 have HW0 := Ak hB.size
 have HB := Ak hB
 have HBZ := Ak hB
 clear hB
 have H : (if (s0_0.length : Int) = (wrap64 (Int.tdiv (wrap64 ((wrap64 (a1 * a2)) + 7)) 8)) then (if 0 ≤ a1 then (if (a1 : Int).toNat ≤ 35184372088832 then ((some (List.replicate (a1 : Int).toNat 0 : List Int)).bind fun y309 => (er_packed.l0 k a2 y309 0 (y309.length : Int) 0 s0_0 s0_1)) else (none)) else (none)) else (some (([] : List Int), s0_0, true))) = some (r1, r2, r3) := h
 clear h
 by_cases c4 : (s0_0.length : Int) = (wrap64 (Int.tdiv (wrap64 ((wrap64 (a1 * a2)) + 7)) 8))
 ·rw [if_pos c4] at H
  have c4b0 : ((s0_0.length : Int) == (wrap64 (Int.tdiv (wrap64 ((wrap64 (a1 * a2)) + 7)) 8))) = true := beq_iff_eq.mpr c4
  have c4b1 : ((s0_0.length : Int) != (wrap64 (Int.tdiv (wrap64 ((wrap64 (a1 * a2)) + 7)) 8))) = false := bne_eq_false_iff_eq.mpr c4
  clear c4
  by_cases c5 : 0 ≤ a1
  ·rw [if_pos c5] at H
   have c5b0 := eq_true c5
   have c5b1 : decide (0 ≤ a1) = true := decide_eq_true c5
   clear c5
   by_cases c6 : (a1 : Int).toNat ≤ 35184372088832
   ·rw [if_pos c6] at H
    have c6b0 := eq_true c6
    have c6b1 : decide ((a1 : Int).toNat ≤ 35184372088832) = true := decide_eq_true c6
    clear c6
    obtain ⟨y309, hy309⟩ : ∃ y_ : List Int, y_ = (List.replicate (a1 : Int).toNat 0) := ⟨_, rfl⟩
    replace H : (er_packed.l0 k a2 y309 0 (y309.length : Int) 0 s0_0 s0_1) = some (r1, r2, r3) := by (have H2_ := (Option.bind_some _ _).symm.trans H; rw [hy309]; with_reducible exact H2_)
    have Ny309 := Ak hy309
    clear hy309
    have H' := Ak H
    clear H
    obtain ⟨ASz7_0, cSz7_0, HGz7, hgz7, HSz7_0⟩ := HI0.out
    have hcz7_0 := cellS71_0 HGz7
    have hcz7_1 := cellS71_1 HGz7
    have hfz7_0 := blk_frozen HGz7 0
    have hfz7_1 := blk_frozen HGz7 1
    have HCSz7_0 := HSz7_0.1
    replace HSz7_0 := HSz7_0.2
    clear HGz7 hgz7
    go_enter Try.func114, Try.ntmps114
    go_wp2_with (first | ((with_reducible refine gate_dst (N := 25) rfl ?_); refine Kd.R_make (Kd.int .i64) _ 3 rfl (N := 25) rfl 22 _ _ rfl a1 rfl rfl Try.underlying22 (.int .i64 0) 8 info3 rfl (by decide) (by omega) 0 (ok := fun _ => True) (okp := fun _ => True) rfl (fun _ hk => hk) trivial (of_decide_eq_true (by (with_reducible assumption))) (Nat.le_trans (Nat.mul_le_mul_right _ (of_decide_eq_true (by (with_reducible assumption)) : a1.toNat ≤ 35184372088832)) (by omega)) (Below.refl _ _) (Nat.le_refl _) ?_; intro v310 w8 ho9 hb hg_ hnew_; clear hg_ hnew_; (rw [← Ny309.out] at ho9); have n0_ := Ak (Kd.R_lower ho9 (keep_size (w := w) (g := g) (row := none) (by exact HK.out))); have n1_ := Ak (IsS71.below (by exact HI0.out) hb); have n2_ := Ak (KeepBut.trans (by exact HK.out) (KeepBut.of_below hb g none) (.inl rfl)); have n3_ := Ak (below_step (by exact HB.out) hb); clear HI0 HK HB; have HO311 := n0_; have HI0 := n1_; have HK := n2_; have HB := n3_; clear n0_ n1_ n2_ n3_ hb ho9; obtain ⟨Ao10, co10, eo10⟩ := Kd.R_slice HO311.out; subst eo10))
    go_loopg [8, 28] k (fun kq v8 v28 w' => ∃ (x7_1 : List Int) (x8_1 : Int) (x28_1 : Int), v8 = .int .i64 x8_1 ∧ v28 = .int .i64 x28_1 ∧ Aside0 (er_packed.l0 kq a2 x7_1 x8_1 (y309.length : Int) x28_1 s0_0 s0_1 = some (r1, r2, r3)) ∧ Aside0 (kq ≤ k) ∧ Aside0 (Kd.R (Kd.int .i64) 3 w' w.heap.size (fun _ => True) (.slice Ao10 y309.length co10) x7_1) ∧ Aside0 (IsS71 w0 w' g s0_0 s0_1) ∧ Aside0 (KeepBut w w' g none) ∧ Aside0 (Below w0.heap.size w0 w'))
    case atStart => exact ⟨(y309), (0), (0), (by rfl), (by rfl), H', ⟨Nat.le_refl _⟩, ⟨by exact HO311.out⟩, ⟨by exact HI0.out⟩, ⟨by exact HK.out⟩, ⟨by exact HB.out⟩⟩
    case round =>
     clear H'
     try clear c4b0
     try clear c4b1
     try clear c5b0
     try clear c5b1
     try clear c6b0
     try clear c6b1
     try clear hcz7_0
     try clear hcz7_1
     try clear hfz7_0
     try clear hfz7_1
     obtain ⟨x7_1, x8_1, x28_1, rfl, rfl, HA, HK1, HO_7, HI0, HK, HB⟩ := hrel
     have hl7_1 := (Kd.R_reads' HO_7.out).1
     rw [hl7_1] at HO_7
     (try simp only [hl7_1])
     cases gk with
     | zero => exact absurd HA.out (by simp [er_packed.l0])
     | succ k1 =>
      have H := HA.out
      clear HA
      simp only [er_packed.l0] at H
      by_cases c11 : x28_1 < (y309.length : Int)
      ·rw [if_pos c11] at H
       have c11b0 : decide (x28_1 < (y309.length : Int)) = true := decide_eq_true c11
       have c11l0 := c11b0
       (try rw [hl7_1] at c11l0)
       clear c11
       have H' := Ak H
       clear H
       go_wp2
       go_loopg [8, 32] k1 (fun kq v8 v32 w' => ∃ (x7_2 : List Int) (x8_2 : Int) (x32_2 : Int), v8 = .int .i64 x8_2 ∧ v32 = .int .i64 x32_2 ∧ Aside0 (er_packed.l1 kq a2 x7_2 x8_2 x28_1 (y309.length : Int) x28_1 a2 x32_2 s0_0 s0_1 = some (r1, r2, r3)) ∧ Aside0 (kq ≤ k1) ∧ Aside0 (Kd.R (Kd.int .i64) 3 w' w.heap.size (fun _ => True) (.slice Ao10 x7_1.length co10) x7_2) ∧ Aside0 (IsS71 w0 w' g s0_0 s0_1) ∧ Aside0 (KeepBut w w' g none) ∧ Aside0 (Below w0.heap.size w0 w'))
       case atStart => exact ⟨(x7_1), (x8_1), (0), (by rfl), (by rfl), H', ⟨Nat.le_refl _⟩, ⟨by exact HO_7.out⟩, ⟨by exact HI0.out⟩, ⟨by exact HK.out⟩, ⟨by exact HB.out⟩⟩
       case round =>
        clear H'
        try clear c11b0
        obtain ⟨x7_2, x8_2, x32_2, rfl, rfl, HA, HK2, HO_7, HI0, HK, HB⟩ := hrel
        have hl7_2 := (Kd.R_reads' HO_7.out).1
        rw [hl7_2] at HO_7
        (try simp only [hl7_2])
        cases gk with
        | zero => exact absurd HA.out (by simp [er_packed.l1])
        | succ k2 =>
         have H := HA.out
         clear HA
         simp only [er_packed.l1] at H
         by_cases c12 : x32_2 < a2
         ·rw [if_pos c12] at H
          have c12b0 : decide (x32_2 < a2) = true := decide_eq_true c12
          clear c12
          by_cases c13 : 0 ≤ x28_1
          ·rw [if_pos c13] at H
           have c13b0 : decide (0 ≤ x28_1) = true := decide_eq_true c13
           clear c13
           by_cases c14 : x28_1 < (x7_2.length : Int)
           ·rw [if_pos c14] at H
            have c14b0 : decide (x28_1 < (x7_2.length : Int)) = true := decide_eq_true c14
            have c14l0 := c14b0
            (try rw [hl7_1] at c14l0)
            (try rw [hl7_2] at c14l0)
            clear c14
            obtain ⟨ji15, hji15⟩ : ∃ j_ : Int, (wrap64 (Int.tdiv x8_2 8)) = j_ := ⟨_, rfl⟩
            replace H : (if 0 ≤ (ji15) then (if (ji15) < (s0_0.length : Int) then (if 0 ≤ (wrap64 (7 - (Int.tmod x8_2 8))) then (er_packed.l1 k2 a2 (x7_2.set (x28_1 : Int).toNat (wrap64 ((wrap64 (2 * (rd x7_2 x28_1))) + (wrap64 (Go.bits .and .u8 (shr .u8 (rd s0_0 (ji15)) (wrap64 (7 - (Int.tmod x8_2 8)))) 1))))) (wrap64 (x8_2 + 1)) x28_1 (y309.length : Int) x28_1 a2 (wrap64 (x32_2 + 1)) s0_0 s0_1) else (none)) else (none)) else (none)) = some (r1, r2, r3) := by (rw [hji15] at H; exact H)
            have hji15w : (IntKind.i64.wrap (Int.tdiv x8_2 8)) = ji15 := (i64_w _).trans hji15
            by_cases c16 : 0 ≤ (ji15)
            ·rw [if_pos c16] at H
             have c16b0 : decide (0 ≤ (ji15)) = true := decide_eq_true c16
             clear c16
             by_cases c17 : (ji15) < (s0_0.length : Int)
             ·rw [if_pos c17] at H
              have c17b0 : decide ((ji15) < (s0_0.length : Int)) = true := decide_eq_true c17
              have c17l0 := c17b0
              (try rw [hl7_1] at c17l0)
              (try rw [hl7_2] at c17l0)
              clear c17
              obtain ⟨ji18, hji18⟩ : ∃ j_ : Int, (wrap64 (7 - (Int.tmod x8_2 8))) = j_ := ⟨_, rfl⟩
              replace H : (if 0 ≤ (ji18) then (er_packed.l1 k2 a2 (x7_2.set (x28_1 : Int).toNat (wrap64 ((wrap64 (2 * (rd x7_2 x28_1))) + (wrap64 (Go.bits .and .u8 (shr .u8 (rd s0_0 (ji15)) (ji18)) 1))))) (wrap64 (x8_2 + 1)) x28_1 (y309.length : Int) x28_1 a2 (wrap64 (x32_2 + 1)) s0_0 s0_1) else (none)) = some (r1, r2, r3) := by (rw [hji18] at H; exact H)
              have hji18w : (IntKind.i64.wrap (7 - (Int.tmod x8_2 8))) = ji18 := (i64_w _).trans hji18
              by_cases c19 : 0 ≤ (ji18)
              ·rw [if_pos c19] at H
               have c19b0 := eq_true c19
               have c19b1 : decide (0 ≤ (ji18)) = true := decide_eq_true c19
               clear c19
               obtain ⟨ji20, hji20⟩ : ∃ j_ : Int, (shr .u8 (rd s0_0 (ji15)) (ji18)) = j_ := ⟨_, rfl⟩
               replace H : (er_packed.l1 k2 a2 (x7_2.set (x28_1 : Int).toNat (wrap64 ((wrap64 (2 * (rd x7_2 x28_1))) + (wrap64 (Go.bits .and .u8 (ji20) 1))))) (wrap64 (x8_2 + 1)) x28_1 (y309.length : Int) x28_1 a2 (wrap64 (x32_2 + 1)) s0_0 s0_1) = some (r1, r2, r3) := by (rw [hji20] at H; exact H)
               have hji20_ : ((rd s0_0 (ji15)) / 2 ^ min (ji18).toNat 8) = ji20 := hji20
               have hji20z : (ji18) ≤ 8 → ((rd s0_0 (ji15)) / 2 ^ (ji18).toNat) = ji20 := shr_small hji20
               obtain ⟨y314, hy314⟩ : ∃ y_ : List Int, y_ = (x7_2.set (x28_1 : Int).toNat (wrap64 ((wrap64 (2 * (rd x7_2 x28_1))) + (wrap64 (Go.bits .and .u8 (ji20) 1))))) := ⟨_, rfl⟩
               replace H : (er_packed.l1 k2 a2 y314 (wrap64 (x8_2 + 1)) x28_1 (y309.length : Int) x28_1 a2 (wrap64 (x32_2 + 1)) s0_0 s0_1) = some (r1, r2, r3) := by (rw [hy314]; with_reducible exact H)
               have Ny314 := Ak hy314
               clear hy314
               have H' := Ak H
               clear H
               try go_wp2
               have n0_ := Ak (Kd.R_drew HO_7.out)
               have n1_ := Ak (IsS71.drew HI0.out)
               have n2_ := Ak (keep_drew HK.out)
               have n3_ := Ak (below_drew1 HB.out)
               clear HO_7 HI0 HK HB
               have HO_7 := n0_
               have HI0 := n1_
               have HK := n2_
               have HB := n3_
               clear n0_ n1_ n2_ n3_
               have p312 : 0 ≤ (x28_1 : Int) := of_decide_eq_true (by (with_reducible assumption))
               have q312 : x28_1 < (x7_2.length : Int) := of_decide_eq_true (by (with_reducible assumption))
               obtain ⟨ad312, e312, hx312_0⟩ := Kd.at_int (Kd.R_reads' HO_7.out).2.2 x28_1 p312 q312
               cases e312
               replace p312 := eq_true p312
               replace q312 := eq_true q312
               obtain ⟨ASz23_0, cSz23_0, HGz23, hgz23, HSz23_0⟩ := HI0.out
               have hcz23_0 := cellS71_0 HGz23
               have hcz23_1 := cellS71_1 HGz23
               have hfz23_0 := blk_frozen HGz23 0
               have hfz23_1 := blk_frozen HGz23 1
               have HCSz23_0 := HSz23_0.1
               replace HSz23_0 := HSz23_0.2
               clear HGz23 hgz23
               have HRsrz23_0 := Ak (Kd.C_below HSz23_0 HBZ.out)
               have hfsrz23_0 : ∀ ad : Addr, ASz23_0 = some ad → 0 < s0_0.length → ad.block ≠ g := Kd.far_C 0 HSz23_0 (IsS71.ge HI0.out)
               have p313 : 0 ≤ ((ji15) : Int) := of_decide_eq_true (by (with_reducible assumption))
               have q313 : (ji15) < (s0_0.length : Int) := of_decide_eq_true (by (with_reducible assumption))
               obtain ⟨ad313, e313, hx313_0⟩ := Kd.at_int HRsrz23_0.out (ji15) p313 q313
               have hw313_0 := hx313_0
               cases e313
               have hne313_0 := (show ((ad313.add ((ji15)).toNat) : Addr).block ≠ g from by (rw [add_block]; exact hfsrz23_0 ad313 rfl (by omega)))
               replace hx313_0 := keep_cell HK.out hx313_0 (by (rw [add_block]; exact hfsrz23_0 _ rfl (by omega)))
               replace p313 := eq_true p313
               replace q313 := eq_true q313
               have p21 : 0 ≤ (x28_1 : Int) := of_decide_eq_true (by (with_reducible assumption))
               have q21 : (x28_1 : Int) < ((x7_2.length : Int) : Int) := of_decide_eq_true (by (with_reducible assumption))
               obtain ⟨go21, co21, eo21, gb21, gl21, cl21, HG21⟩ := Kd.R_form HO_7.out (by omega)
               (cases eo21)
               have GB21 := Ak gb21
               have GG21 := Ak HG21
               clear gb21 gl21 HG21
               (simp only [add_plain] at hx312_0)
               obtain ⟨hx21_0, hf21_0⟩ := Kd.R_celln 0 HO_7.out (x28_1 : Int) p21 q21
               replace p21 := eq_true p21
               replace q21 := eq_true q21
               have HN0_go21 := Ak (show g ≠ go21 from by have h_ := IsS71.own_ne HI0.out HO_7.out (by decide); intro e_; exact h_ (by rw [e_]; rfl))
               have HP24 := Kd.R_putn HO_7.out (x28_1 : Int) (wrap64 ((wrap64 (2 * (rd x7_2 x28_1))) + (wrap64 (Go.bits .and .u8 (ji20) 1))))
               rw [← Ny314.out] at HP24
               have HQ24 := Ak HP24
               clear HP24
               refine start_ (n := 24) (S := fun w' => w'.cell? ⟨g, 0, none⟩ = some (.slice (some ad313) s0_0.length cSz23_0) ∧ w'.cell? ⟨g, 1, none⟩ = some (.bool s0_1) ∧ w'.cell? ⟨go21, (x28_1).toNat, none⟩ = some (.int .i64 (rd x7_2 x28_1)) ∧ w'.cell? (ad313.add ((ji15)).toNat) = some (.int .u8 (rd s0_0 (ji15)))) (ds := [23]) #[false, false, false, false, false, false, false, false, false, false, false, false, false, false, false, false, false, false, false, false, false, false, false, false] (by kernel_rfl) rfl rfl ⟨hcz23_0, hcz23_1, hx312_0, (keep_cell HK.out hw313_0 hne313_0)⟩ (fun hHeld => ?_); refine with_tabW er_packed.tab11 er_packed.bits11 (fun HT_ HW_ => ?_)
               generalize wr.drew = w22 at HO_7 HI0 HK HB GG21 HQ24 hf21_0 hx21_0 hx312_0 hx313_0 hHeld ⊢
               refine pure_ (i := 0) (N := some 34) (v := ?_) (a' := ?_) #[true, false, false, false, false, false, false, false, false, false, false, false, false, false, false, false, false, false, false, false, false, false, false, false] rfl rfl (any_of HT_.out (by kernel_rfl)) (fun _ _ _ h => h) (Or.inl ⟨by rfl, ?_⟩) ?_ ?_
               rotate_left
               ·intro w'
                go_simp
                with_reducible rfl
               rotate_left
               ·simp only [Act.put, List.setIfInBounds_toArray, List.set_cons_zero, List.set_cons_succ, i64_w, i32_w]
                rfl
               refine pure_ (i := 1) (N := some 35) (v := ?_) (a' := ?_) #[true, true, false, false, false, false, false, false, false, false, false, false, false, false, false, false, false, false, false, false, false, false, false, false] rfl rfl (any_of HT_.out (by kernel_rfl)) (fun _ _ _ h => h) (Or.inl ⟨by rfl, ?_⟩) ?_ ?_
               rotate_left
               ·intro w'
                go_simp
                with_reducible rfl
               rotate_left
               ·simp only [Act.put, List.setIfInBounds_toArray, List.set_cons_zero, List.set_cons_succ, i64_w, i32_w]
                rfl
               refine pure_ (i := 2) (N := some 36) (v := ?_) (a' := ?_) #[true, true, true, false, false, false, false, false, false, false, false, false, false, false, false, false, false, false, false, false, false, false, false, false] rfl rfl (any_of HT_.out (by kernel_rfl)) (fun _ _ _ h => h) (Or.inl ⟨by rfl, ?_⟩) ?_ ?_
               rotate_left
               ·intro w'
                go_simp
                with_reducible rfl
               rotate_left
               ·simp only [Act.put, List.setIfInBounds_toArray, List.set_cons_zero, List.set_cons_succ, i64_w, i32_w]
                rfl
               refine pure_ (i := 3) (N := some 37) (v := ?_) (a' := ?_) #[true, true, true, true, false, false, false, false, false, false, false, false, false, false, false, false, false, false, false, false, false, false, false, false] rfl rfl (any_of HT_.out (by kernel_rfl)) (fun _ _ _ h => h) (Or.inl ⟨by rfl, ?_⟩) ?_ ?_
               rotate_left
               ·intro w'
                go_simp
                with_reducible rfl
               rotate_left
               ·simp only [Act.put, List.setIfInBounds_toArray, List.set_cons_zero, List.set_cons_succ, i64_w, i32_w]
                rfl
               refine pure_ (i := 4) (N := some 38) (v := ?_) (a' := ?_) #[true, true, true, true, true, false, false, false, false, false, false, false, false, false, false, false, false, false, false, false, false, false, false, false] rfl rfl (any_of HT_.out (by kernel_rfl)) (fun _ _ _ h => h) (Or.inl ⟨by rfl, ?_⟩) ?_ ?_
               rotate_left
               ·intro w'
                go_simp
                with_reducible rfl
               rotate_left
               ·simp only [Act.put, List.setIfInBounds_toArray, List.set_cons_zero, List.set_cons_succ, i64_w, i32_w]
                rfl
               refine pure_ (i := 7) (N := some 41) (v := ?_) (a' := ?_) #[true, true, true, true, true, false, false, true, false, false, false, false, false, false, false, false, false, false, false, false, false, false, false, false] rfl rfl (any_of HT_.out (by kernel_rfl)) (fun _ _ _ h => h) (Or.inl ⟨by rfl, ?_⟩) ?_ ?_
               rotate_left
               ·intro w'
                go_simp
                with_reducible rfl
               rotate_left
               ·simp only [Act.put, List.setIfInBounds_toArray, List.set_cons_zero, List.set_cons_succ, i64_w, i32_w]
                rfl
               refine pure_ (i := 8) (N := some 42) (v := ?_) (a' := ?_) #[true, true, true, true, true, false, false, true, true, false, false, false, false, false, false, false, false, false, false, false, false, false, false, false] rfl rfl (any_of HT_.out (by kernel_rfl)) (fun _ _ _ h => h) (Or.inl ⟨by rfl, ?_⟩) ?_ ?_
               rotate_left
               ·intro w'
                go_simp
                with_reducible rfl
               rotate_left
               ·simp only [Act.put, List.setIfInBounds_toArray, List.set_cons_zero, List.set_cons_succ, i64_w, i32_w]
                rfl
               refine pure_ (i := 9) (N := some 43) (v := ?_) (a' := ?_) #[true, true, true, true, true, false, false, true, true, true, false, false, false, false, false, false, false, false, false, false, false, false, false, false] rfl rfl (any_of HT_.out (by kernel_rfl)) (fun _ _ _ h => h) (Or.inl ⟨by rfl, ?_⟩) ?_ ?_
               rotate_left
               ·intro w'
                go_simp
                with_reducible rfl
               rotate_left
               ·simp only [Act.put, List.setIfInBounds_toArray, List.set_cons_zero, List.set_cons_succ, i64_w, i32_w]
                rfl
               refine pure_ (i := 11) (N := some 45) (v := ?_) (a' := ?_) #[true, true, true, true, true, false, false, true, true, true, false, true, false, false, false, false, false, false, false, false, false, false, false, false] rfl rfl (any_of HT_.out (by kernel_rfl)) (fun _ _ _ h => h) (Or.inl ⟨by rfl, ?_⟩) ?_ ?_
               rotate_left
               ·intro w'
                go_simp
                with_reducible rfl
               rotate_left
               ·simp only [Act.put, List.setIfInBounds_toArray, List.set_cons_zero, List.set_cons_succ, i64_w, i32_w]
                rfl
               refine pure_ (i := 12) (N := some 46) (v := ?_) (a' := ?_) #[true, true, true, true, true, false, false, true, true, true, false, true, true, false, false, false, false, false, false, false, false, false, false, false] rfl rfl (any_of HT_.out (by kernel_rfl)) (fun _ _ _ h => h) (Or.inl ⟨by rfl, ?_⟩) ?_ ?_
               rotate_left
               ·intro w'
                go_simp
                with_reducible rfl
               rotate_left
               ·simp only [Act.put, List.setIfInBounds_toArray, List.set_cons_zero, List.set_cons_succ, i64_w, i32_w]
                rfl
               refine pure_ (i := 15) (N := some 49) (v := ?_) (a' := ?_) #[true, true, true, true, true, false, false, true, true, true, false, true, true, false, false, true, false, false, false, false, false, false, false, false] rfl rfl (any_of HT_.out (by kernel_rfl)) (fun _ _ _ h => h) (Or.inl ⟨by rfl, ?_⟩) ?_ ?_
               rotate_left
               ·intro w'
                go_simp
                with_reducible rfl
               rotate_left
               ·simp only [Act.put, List.setIfInBounds_toArray, List.set_cons_zero, List.set_cons_succ, i64_w, i32_w]
                rfl
               refine pure_ (i := 16) (N := some 50) (v := ?_) (a' := ?_) #[true, true, true, true, true, false, false, true, true, true, false, true, true, false, false, true, true, false, false, false, false, false, false, false] rfl rfl (any_of HT_.out (by kernel_rfl)) (fun _ _ _ h => h) (Or.inl ⟨by rfl, ?_⟩) ?_ ?_
               rotate_left
               ·intro w'
                go_simp
                with_reducible rfl
               rotate_left
               ·simp only [Act.put, List.setIfInBounds_toArray, List.set_cons_zero, List.set_cons_succ, i64_w, i32_w]
                rfl
               refine pure_ (i := 17) (N := some 51) (v := ?_) (a' := ?_) #[true, true, true, true, true, false, false, true, true, true, false, true, true, false, false, true, true, true, false, false, false, false, false, false] rfl rfl (any_of HT_.out (by kernel_rfl)) (fun _ _ _ h => h) (Or.inl ⟨by rfl, ?_⟩) ?_ ?_
               rotate_left
               ·intro w'
                go_simp
                with_reducible rfl
               rotate_left
               ·simp only [Act.put, List.setIfInBounds_toArray, List.set_cons_zero, List.set_cons_succ, i64_w, i32_w]
                rfl
               refine take_ (i := 5) (N := some 39) (v := ?_) (a' := ?_) #[true, true, true, true, true, true, false, true, true, true, false, true, true, false, false, true, true, true, false, false, false, false, false, false] rfl rfl (take_ofW HT_.out HW_.out (by kernel_rfl)) (fun _ _ _ h => h) (Or.inl ⟨by rfl, ?_⟩) hHeld ?_ ?_
               rotate_left
               ·rintro w' ⟨s0, s1, s2, s3⟩
                go_simp
                with_reducible rfl
               rotate_left
               ·simp only [Act.put, List.setIfInBounds_toArray, List.set_cons_zero, List.set_cons_succ, i64_w, i32_w]
                rfl
               refine pure_ (i := 6) (N := some 40) (v := ?_) (a' := ?_) #[true, true, true, true, true, true, true, true, true, true, false, true, true, false, false, true, true, true, false, false, false, false, false, false] rfl rfl (any_of HT_.out (by kernel_rfl)) (fun _ _ _ h => h) (Or.inl ⟨by rfl, ?_⟩) ?_ ?_
               rotate_left
               ·intro w'
                go_simp
                with_reducible rfl
               rotate_left
               ·simp only [Act.put, List.setIfInBounds_toArray, List.set_cons_zero, List.set_cons_succ, i64_w, i32_w]
                rfl
               refine take_ (i := 10) (N := some 44) (v := ?_) (a' := ?_) #[true, true, true, true, true, true, true, true, true, true, true, true, true, false, false, true, true, true, false, false, false, false, false, false] rfl rfl (take_ofW HT_.out HW_.out (by kernel_rfl)) (fun _ _ _ h => h) (Or.inl ⟨by rfl, ?_⟩) hHeld ?_ ?_
               rotate_left
               ·rintro w' ⟨s0, s1, s2, s3⟩
                go_simp
                with_reducible rfl
               rotate_left
               ·simp only [Act.put, List.setIfInBounds_toArray, List.set_cons_zero, List.set_cons_succ, i64_w, i32_w]
                rfl
               refine pure_ (i := 13) (N := some 47) (v := ?_) (a' := ?_) #[true, true, true, true, true, true, true, true, true, true, true, true, true, true, false, true, true, true, false, false, false, false, false, false] rfl rfl (any_of HT_.out (by kernel_rfl)) (fun _ _ _ h => h) (Or.inl ⟨by rfl, ?_⟩) ?_ ?_
               rotate_left
               ·intro w'
                go_simp
                with_reducible rfl
               rotate_left
               ·simp only [Act.put, List.setIfInBounds_toArray, List.set_cons_zero, List.set_cons_succ, i64_w, i32_w]
                rfl
               refine take_ (i := 14) (N := some 48) (v := ?_) (a' := ?_) #[true, true, true, true, true, true, true, true, true, true, true, true, true, true, true, true, true, true, false, false, false, false, false, false] rfl rfl (take_ofW HT_.out HW_.out (by kernel_rfl)) (fun _ _ _ h => h) (Or.inl ⟨by rfl, ?_⟩) hHeld ?_ ?_
               rotate_left
               ·rintro w' ⟨s0, s1, s2, s3⟩
                go_simp
                with_reducible rfl
               rotate_left
               ·simp only [Act.put, List.setIfInBounds_toArray, List.set_cons_zero, List.set_cons_succ, i64_w, i32_w]
                rfl
               refine pure_ (i := 18) (N := some 52) (v := ?_) (a' := ?_) #[true, true, true, true, true, true, true, true, true, true, true, true, true, true, true, true, true, true, true, false, false, false, false, false] rfl rfl (any_of HT_.out (by kernel_rfl)) (fun _ _ _ h => h) (Or.inl ⟨by rfl, ?_⟩) ?_ ?_
               rotate_left
               ·intro w'
                go_simp
                with_reducible rfl
               rotate_left
               ·simp only [Act.put, List.setIfInBounds_toArray, List.set_cons_zero, List.set_cons_succ, i64_w, i32_w]
                rfl
               refine pure_ (i := 19) (N := some 53) (v := ?_) (a' := ?_) #[true, true, true, true, true, true, true, true, true, true, true, true, true, true, true, true, true, true, true, true, false, false, false, false] rfl rfl (any_of HT_.out (by kernel_rfl)) (fun _ _ _ h => h) (Or.inl ⟨by rfl, ?_⟩) ?_ ?_
               rotate_left
               ·intro w'
                go_simp
                with_reducible rfl
               rotate_left
               ·simp only [Act.put, List.setIfInBounds_toArray, List.set_cons_zero, List.set_cons_succ, i64_w, i32_w]
                rfl
               refine pure_ (i := 20) (N := some 54) (v := ?_) (a' := ?_) #[true, true, true, true, true, true, true, true, true, true, true, true, true, true, true, true, true, true, true, true, true, false, false, false] rfl rfl (any_of HT_.out (by kernel_rfl)) (fun _ _ _ h => h) (Or.inl ⟨by rfl, ?_⟩) ?_ ?_
               rotate_left
               ·intro w'
                go_simp
                with_reducible rfl
               rotate_left
               ·simp only [Act.put, List.setIfInBounds_toArray, List.set_cons_zero, List.set_cons_succ, i64_w, i32_w]
                rfl
               refine pure_ (i := 21) (N := some 55) (v := ?_) (a' := ?_) #[true, true, true, true, true, true, true, true, true, true, true, true, true, true, true, true, true, true, true, true, true, true, false, false] rfl rfl (any_of HT_.out (by kernel_rfl)) (fun _ _ _ h => h) (Or.inl ⟨by rfl, ?_⟩) ?_ ?_
               rotate_left
               ·intro w'
                go_simp
                with_reducible rfl
               rotate_left
               ·simp only [Act.put, List.setIfInBounds_toArray, List.set_cons_zero, List.set_cons_succ, i64_w, i32_w]
                rfl
               refine pure_ (i := 22) (N := some 56) (v := ?_) (a' := ?_) #[true, true, true, true, true, true, true, true, true, true, true, true, true, true, true, true, true, true, true, true, true, true, true, false] rfl rfl (any_of HT_.out (by kernel_rfl)) (fun _ _ _ h => h) (Or.inl ⟨by rfl, ?_⟩) ?_ ?_
               rotate_left
               ·intro w'
                go_simp
                with_reducible rfl
               rotate_left
               ·simp only [Act.put, List.setIfInBounds_toArray, List.set_cons_zero, List.set_cons_succ, i64_w, i32_w]
                rfl
               refine last_ (i := 23) (N := none) #[true, true, true, true, true, true, true, true, true, true, true, true, true, true, true, true, true, true, true, true, true, true, true, true] rfl rfl (one_of HT_.out (by kernel_rfl)) (by decide) (fun K hK => ?_)
               refine skip_ (w1 := ?_) (by rfl) rfl ?_ ?_
               rotate_left
               ·go_simp
                rfl
               refine hK.out _ _ ?_
               clear hK K
               refine done_ (done_of HT_.out (by kernel_rfl)) ?_
               try go_wp2
               (try simp only [← hl7_2])
               go_roundg k2
               case measure => have := HK1.out; have := HK2.out; omega
               case rel => exact ⟨(y314), (wrap64 (x8_2 + 1)), (wrap64 (x32_2 + 1)), (by rfl), (by rfl), H', ⟨by have := HK1.out; have := HK2.out; omega⟩, ⟨by (try simp only [hl7_2]); exact HQ24.out⟩, ⟨by repeat ((with_reducible first | exact HI0.out | refine IsS71.far ?_ HN0_go21.out _))⟩, ⟨by repeat ((with_reducible first | exact HK.out | refine keep_far ?_ GB21.out _))⟩, ⟨by repeat ((with_reducible first | exact HB.out | refine below_set ?_ (Nat.le_trans HL.out GB21.out)))⟩⟩
              ·rw [if_neg c19] at H
               exact absurd H (by simp)
             ·rw [if_neg c17] at H
              exact absurd H (by simp)
            ·rw [if_neg c16] at H
             exact absurd H (by simp)
           ·rw [if_neg c14] at H
            exact absurd H (by simp)
          ·rw [if_neg c13] at H
           exact absurd H (by simp)
         ·rw [if_neg c12] at H
          have c12b0 : decide (x32_2 < a2) = false := decide_eq_false c12
          clear c12
          have H' := Ak H
          clear H
          go_wp2
          (try simp only [← hl7_1, ← hl7_2])
          go_roundg k2
          case measure => have := HK1.out; have := HK2.out; omega
          case rel => exact ⟨(x7_2), (x8_2), (wrap64 (x28_1 + 1)), (by rfl), (by rfl), H', ⟨by have := HK1.out; have := HK2.out; omega⟩, ⟨by (try simp only [hl7_1]); (try simp only [hl7_2]); exact HO_7.out⟩, ⟨by exact HI0.out⟩, ⟨by exact HK.out⟩, ⟨by exact HB.out⟩⟩
      ·rw [if_neg c11] at H
       have c11b0 : decide (x28_1 < (y309.length : Int)) = false := decide_eq_false c11
       have c11l0 := c11b0
       (try rw [hl7_1] at c11l0)
       clear c11
       simp only [Option.some.injEq, Prod.mk.injEq] at H
       obtain ⟨rfl, rfl, rfl⟩ := H
       obtain ⟨ASz25_0, cSz25_0, HGz25, hgz25, HSz25_0⟩ := HI0.out
       have hcz25_0 := cellS71_0 HGz25
       have hcz25_1 := cellS71_1 HGz25
       have hfz25_0 := blk_frozen HGz25 0
       have hfz25_1 := blk_frozen HGz25 1
       have HCSz25_0 := HSz25_0.1
       replace HSz25_0 := HSz25_0.2
       clear HGz25 hgz25
       go_wp2
       go_ret
       exact ⟨_, by rfl, by exact Kd.R_mono (Kd.R_far (p := ⟨g, 0, none⟩) (IsS71.apart HI0.out HO_7.out (by decide)) (fun _ hk => hk.2) (.slice none 0 0)) (fun _ hk => trivial), by repeat (exact IsS71.setw_0 (by exact HI0.out) (by simp) ⟨Nat.le_refl _, Kd.C_nil _ _⟩), by repeat ((with_reducible first | exact HB.out | refine below_set ?_ (IsS71.ge HI0.out))), by repeat ((with_reducible first | exact HK.out | apply KeepBut.set_ ))⟩
   ·rw [if_neg c6] at H
    exact absurd H (by simp)
  ·rw [if_neg c5] at H
   exact absurd H (by simp)
 ·rw [if_neg c4] at H
  have c4b0 : ((s0_0.length : Int) == (wrap64 (Int.tdiv (wrap64 ((wrap64 (a1 * a2)) + 7)) 8))) = false := beq_eq_false_iff_ne.mpr c4
  have c4b1 : ((s0_0.length : Int) != (wrap64 (Int.tdiv (wrap64 ((wrap64 (a1 * a2)) + 7)) 8))) = true := bne_iff_ne.mpr c4
  simp only [Option.some.injEq, Prod.mk.injEq] at H
  obtain ⟨rfl, rfl, rfl⟩ := H
  obtain ⟨ASz26_0, cSz26_0, HGz26, hgz26, HSz26_0⟩ := HI0.out
  have hcz26_0 := cellS71_0 HGz26
  have hcz26_1 := cellS71_1 HGz26
  have hfz26_0 := blk_frozen HGz26 0
  have hfz26_1 := blk_frozen HGz26 1
  have HCSz26_0 := HSz26_0.1
  replace HSz26_0 := HSz26_0.2
  clear HGz26 hgz26
  go_enter Try.func114, Try.ntmps114
  go_wp2
  go_ret
  exact ⟨_, by rfl, by exact Kd.R_nil _ _ _ _ _, by repeat ((with_reducible first | exact HI0.out | apply IsS71.set_1)), by repeat ((with_reducible first | exact HB.out | refine below_set ?_ (IsS71.ge HI0.out))), by repeat ((with_reducible first | exact HK.out | apply KeepBut.set_ ))⟩
mutual
def er_dictTexts.l0 : Nat → Int → Int → List ByteArray → ByteArray → List Int → Bool → Option (List ByteArray × List Int × Bool)
 | 0, _, _, _, _, _, _ => none
 | k + 1, x1, x5, x6, x7, x1000, x1001 => if (x6.length : Int) < x5 then (er_dictTexts.j1 k x1 x5 x6 x7 (!x1001) x1000 x1001) else (er_dictTexts.j1 k x1 x5 x6 x7 false x1000 x1001)
def er_dictTexts.j1 : Nat → Int → Int → List ByteArray → ByteArray → Bool → List Int → Bool → Option (List ByteArray × List Int × Bool)
 | 0, _, _, _, _, _, _, _ => none
 | k + 1, x1, x5, x6, x7, x25, x1000, x1001 => if x25 = true then ((er_count.f k x1000 x1001).bind fun bt318 => ((er_count.f k bt318.2.1 bt318.2.2).bind fun bt321 => (if bt318.1 > (x7.size : Int) then (some (([] : List ByteArray), bt321.2.1, true)) else (if bt321.1 > 200 then (some (([] : List ByteArray), bt321.2.1, true)) else (if 0 ≤ bt318.1 then (if bt318.1 ≤ (x7.size : Int) then ((er_text.f bt321.2.1 bt321.2.2 bt321.1).bind fun bt324 => (if (x7.extract 0 (bt318.1 : Int).toNat).size + bt324.1.size ≤ 9223372036854775807 then (if x6.length < 8796093022208 then (er_dictTexts.l0 k x1 x5 (x6 ++ [(x7.extract 0 (bt318.1 : Int).toNat) ++ bt324.1]) ((x7.extract 0 (bt318.1 : Int).toNat) ++ bt324.1) bt324.2.1 bt324.2.2) else (none)) else (none))) else (none)) else (none)))))) else (if x5 = 0 then (er_dictTexts.j2 k x1 x5 x6 true x1000 x1001) else (er_dictTexts.j2 k x1 x5 x6 x1001 x1000 x1001))
def er_dictTexts.j2 : Nat → Int → Int → List ByteArray → Bool → List Int → Bool → Option (List ByteArray × List Int × Bool)
 | 0, _, _, _, _, _, _ => none
 | k + 1, x1, x5, x6, x59, x1000, x1001 => if x59 = true then (some (([] : List ByteArray), x1000, true)) else ((e_widthOf.f (wrap64 (x5 - 1))).bind fun t330 => ((er_packed.f k x1000 x1001 x1 t330).bind fun bt331 => (er_dictTexts.l1 k x5 x6 ([] : List ByteArray) bt331.1 (bt331.1.length : Int) 0 bt331.2.1 bt331.2.2)))
def er_dictTexts.l1 : Nat → Int → List ByteArray → List ByteArray → List Int → Int → Int → List Int → Bool → Option (List ByteArray × List Int × Bool)
 | 0, _, _, _, _, _, _, _, _ => none
 | k + 1, x5, x6, x10, x68, x69, x70, x1000, x1001 => if x70 < x69 then (if 0 ≤ x70 then (if x70 < (x68.length : Int) then (if (rd x68 x70) ≥ x5 then (some (([] : List ByteArray), x1000, true)) else (if 0 ≤ (rd x68 x70) then (if (rd x68 x70) < (x6.length : Int) then (if x10.length < 8796093022208 then (er_dictTexts.l1 k x5 x6 (x10 ++ [rdOf ByteArray.empty x6 (rd x68 x70)]) x68 x69 (wrap64 (x70 + 1)) x1000 x1001) else (none)) else (none)) else (none))) else (none)) else (none)) else (some (x10, x1000, x1001))
end
def er_dictTexts.f (k : Nat) (s0_0 : List Int) (s0_1 : Bool) (a1 : Int) : Option (List ByteArray × List Int × Bool) := (er_long.f k s0_0 s0_1).bind fun bt315 => (er_dictTexts.l0 k a1 bt315.1 ([] : List ByteArray) (⟨#[]⟩ : ByteArray) bt315.2.1 bt315.2.2)
theorem er_dictTexts.mono_l : ∀ k, (∀ y0 y1 y2 y3 y4 y5, LeO (er_dictTexts.l0 k y0 y1 y2 y3 y4 y5) (er_dictTexts.l0 (k + 1) y0 y1 y2 y3 y4 y5)) ∧ (∀ y0 y1 y2 y3 y4 y5 y6, LeO (er_dictTexts.j1 k y0 y1 y2 y3 y4 y5 y6) (er_dictTexts.j1 (k + 1) y0 y1 y2 y3 y4 y5 y6)) ∧ (∀ y0 y1 y2 y3 y4 y5, LeO (er_dictTexts.j2 k y0 y1 y2 y3 y4 y5) (er_dictTexts.j2 (k + 1) y0 y1 y2 y3 y4 y5)) ∧ (∀ y0 y1 y2 y3 y4 y5 y6 y7, LeO (er_dictTexts.l1 k y0 y1 y2 y3 y4 y5 y6 y7) (er_dictTexts.l1 (k + 1) y0 y1 y2 y3 y4 y5 y6 y7))
 | 0 => ⟨fun _ _ _ _ _ _ r h => by simp [er_dictTexts.l0] at h, fun _ _ _ _ _ _ _ r h => by simp [er_dictTexts.j1] at h, fun _ _ _ _ _ _ r h => by simp [er_dictTexts.j2] at h, fun _ _ _ _ _ _ _ _ r h => by simp [er_dictTexts.l1] at h⟩
 | k + 1 => by
  obtain ⟨ih0, ih1, ih2, ih3⟩ := er_dictTexts.mono_l k
  refine ⟨?_, ?_, ?_, ?_⟩ <;> intros
  all_goals (first | unfold er_dictTexts.l0 | unfold er_dictTexts.j1 | unfold er_dictTexts.j2 | unfold er_dictTexts.l1)
  all_goals
   repeat' first
   | (with_reducible exact ih0 _ _ _ _ _ _)
   | (with_reducible exact ih1 _ _ _ _ _ _ _)
   | (with_reducible exact ih2 _ _ _ _ _ _)
   | (with_reducible exact ih3 _ _ _ _ _ _ _ _)
   | (with_reducible exact er_count.mono _ _ _)
   | (with_reducible exact er_packed.mono _ _ _ _ _)
   | (with_reducible exact LeO.refl _)
   | (with_reducible refine LeO.ite ?_ ?_)
   | (with_reducible refine LeO.bind ?_ (fun _ => ?_))
theorem er_dictTexts.mono : ∀ a0 a1 a2 k, LeO (er_dictTexts.f k a0 a1 a2) (er_dictTexts.f (k + 1) a0 a1 a2) := by
 intro a0 a1 a2 k
 obtain ⟨ih0, ih1, ih2, ih3⟩ := er_dictTexts.mono_l k
 unfold er_dictTexts.f
 repeat' first
  | (with_reducible exact ih0 _ _ _ _ _ _)
  | (with_reducible exact er_long.mono _ _ _)
  | (with_reducible refine LeO.bind ?_ (fun _ => ?_))
def er_dictTexts.T9 : Bool × List (List Nat × List Nat) := (true, [([], []), ([], []), ([0, 1], [0, 1]), ([], []), ([], []), ([3, 4], [3, 4]), ([2, 5], [2, 5]), ([6, 5, 0, 1, 2, 3, 4, 5, 6], [0, 6])])
def er_dictTexts.B9 : List Nat := [0, 0, 3, 0, 0, 24, 63, 127]
theorem er_dictTexts.tab9 : rtab .any (opsOf Try.f98 9) = er_dictTexts.T9 := by kernel_rfl
theorem er_dictTexts.bits9 : waitsOk er_dictTexts.T9.2 er_dictTexts.B9 = true := by kernel_rfl
set_option maxHeartbeats 8000000 in
set_option maxRecDepth 100000 in
theorem er_dictTexts.calls (k : Nat) (g : Nat) (s0_0 : List Int) (s0_1 : Bool) (a1 : Int) (r1 : List ByteArray) (r2 : List Int) (r3 : Bool) (w0 w : World) (hI : IsS71 w0 w g s0_0 s0_1) (hB : Below w0.heap.size w0 w) (h : er_dictTexts.f k s0_0 s0_1 a1 = some (r1, r2, r3)) :
 Calls Try.prog 98 #[.pointer (some ⟨g, 0, none⟩), .int .i64 a1] w fun e w' => ∃ v0_ : Value, e = .returned (v0_) ∧ Kd.R Kd.string 9 w' w.heap.size (fun _ => True) v0_ r1 ∧ IsS71 w0 w' g r2 r3 ∧ Below w0.heap.size w0 w' ∧ KeepBut w w' g none := by
 have HI0 := Ak hI
 have HK := Ak (KeepBut.refl w g none)
 have HL := Ak hB.size
 clear hI
 have HW0 := Ak hB.size
 have HB := Ak hB
 have HBZ := Ak hB
 clear hB
 have H : ((er_long.f k s0_0 s0_1).bind fun bt315 => (er_dictTexts.l0 k a1 bt315.1 ([] : List ByteArray) (⟨#[]⟩ : ByteArray) bt315.2.1 bt315.2.2)) = some (r1, r2, r3) := h
 clear h
 replace H := Option.bind_eq_some_iff.mp H
 obtain ⟨⟨t315, t316, t317⟩, A30, H⟩ := H
 replace H : (er_dictTexts.l0 k a1 t315 ([] : List ByteArray) (⟨#[]⟩ : ByteArray) t316 t317) = some (r1, r2, r3) := H
 have A3 := Ak A30
 clear A30
 have H' := Ak H
 clear H
 go_enter Try.func98, Try.ntmps98
 go_wp2_with (first | ((with_reducible refine gate_callee (f := 79) rfl ?_); refine goesL_ (some 14) rfl rfl Try.func79 (by kernel_rfl) rfl #[.pointer (some ⟨g, 0, none⟩)] rfl (by (try simp only [lm]); rfl) ?_; (with_reducible refine (er_long.calls k g s0_0 s0_1 t315 t316 t317 w0 _ ?side1 ?side2 A3.out).mono ?_); (case side1 => exact HI0.out); (case side2 => exact HB.out); rintro e w4 ⟨rfl, hi, hb, hk⟩; refine ⟨_, rfl, ?_⟩; have n0_ := Ak (KeepBut.trans (by exact HK.out) hk (.inl rfl)); have n1_ := Ak (hb); have n2_ := Ak (hi); clear HK HB HI0; have HK := n0_; have HB := n1_; have HI0 := n2_; clear n0_ n1_ n2_; (try clear hb); (try clear hk); (try clear hi)))
 go_loopg [6, 7] k (fun kq v6 v7 w' => ∃ (x6_1 : List ByteArray) (x7_1 : ByteArray) (x1000_1 : List Int) (x1001_1 : Bool), v7 = .string x7_1 ∧ Aside0 (er_dictTexts.l0 kq a1 t315 x6_1 x7_1 x1000_1 x1001_1 = some (r1, r2, r3)) ∧ Aside0 (kq ≤ k) ∧ Aside0 (Kd.R Kd.string 9 w' w.heap.size (fun _ => True) v6 x6_1) ∧ Aside0 (IsS71 w0 w' g x1000_1 x1001_1) ∧ Aside0 (KeepBut w w' g none) ∧ Aside0 (Below w0.heap.size w0 w'))
 case atStart => exact ⟨(([] : List ByteArray)), ((⟨#[]⟩ : ByteArray)), (t316), (t317), (by rfl), H', ⟨Nat.le_refl _⟩, ⟨by exact Kd.R_nil _ _ _ _ _⟩, ⟨by exact HI0.out⟩, ⟨by exact HK.out⟩, ⟨by exact HB.out⟩⟩
 case round =>
  clear H'
  obtain ⟨x6_1, x7_1, x1000_1, x1001_1, rfl, HA, HK1, HO_6, HI0, HK, HB⟩ := hrel
  cases gk with
  | zero => exact absurd HA.out (by simp [er_dictTexts.l0])
  | succ k1 =>
   have H := HA.out
   clear HA
   simp only [er_dictTexts.l0] at H
   have HC5 := Ak H
   clear H
   go_upto_region 4 with (fail)
   go_cut [25] (fun v25 wc => ∃ (kq : Nat) (x25_4 : Bool), v25 = .bool x25_4 ∧ Aside0 (er_dictTexts.j1 kq a1 t315 x6_1 x7_1 x25_4 x1000_1 x1001_1 = some (r1, r2, r3)) ∧ Aside0 (kq ≤ k1) ∧ Aside0 (Kd.R Kd.string 9 wc w.heap.size (fun _ => True) u6 x6_1) ∧ Aside0 (IsS71 w0 wc g x1000_1 x1001_1) ∧ Aside0 (KeepBut w wc g none) ∧ Aside0 (Below w0.heap.size w0 wc))
   case first =>
    have H := HC5.out
    clear HC5
    by_cases c6 : (x6_1.length : Int) < t315
    ·rw [if_pos c6] at H
     have c6b0 : decide ((x6_1.length : Int) < t315) = true := decide_eq_true c6
     clear c6
     (skip)
     (try rw [c6b1])
     have H' := Ak H
     clear H
     obtain ⟨Ao7, co7, eo7⟩ := Kd.R_slice HO_6.out
     subst eo7
     obtain ⟨ASz8_0, cSz8_0, HGz8, hgz8, HSz8_0⟩ := HI0.out
     have hcz8_0 := cellS71_0 HGz8
     have hcz8_1 := cellS71_1 HGz8
     have hfz8_0 := blk_frozen HGz8 0
     have hfz8_1 := blk_frozen HGz8 1
     have HCSz8_0 := HSz8_0.1
     replace HSz8_0 := HSz8_0.2
     clear HGz8 hgz8
     go_wp2
     go_meet
     case rel => exact ⟨_, (!x1001_1), (by rfl), H', ⟨by have := HK1.out; omega⟩, ⟨by exact HO_6.out⟩, ⟨by exact HI0.out⟩, ⟨by exact HK.out⟩, ⟨by exact HB.out⟩⟩
    ·rw [if_neg c6] at H
     have c6b0 : decide ((x6_1.length : Int) < t315) = false := decide_eq_false c6
     clear c6
     (skip)
     (try rw [c6b1])
     have H' := Ak H
     clear H
     obtain ⟨Ao9, co9, eo9⟩ := Kd.R_slice HO_6.out
     subst eo9
     go_wp2
     go_meet
     case rel => exact ⟨_, (false), (by rfl), H', ⟨by have := HK1.out; omega⟩, ⟨by exact HO_6.out⟩, ⟨by exact HI0.out⟩, ⟨by exact HK.out⟩, ⟨by exact HB.out⟩⟩
   case rest =>
    clear HC5
    obtain ⟨kq, x25_4, rfl, HA, HJ4, HO_6, HI0, HK, HB⟩ := hcut
    cases kq with
    | zero => exact absurd HA.out (by simp [er_dictTexts.j1])
    | succ kj4 =>
     have H := HA.out
     clear HA
     simp only [er_dictTexts.j1] at H
     by_cases c10 : x25_4 = true
     ·subst c10
      replace H : ((er_count.f kj4 x1000_1 x1001_1).bind fun bt318 => ((er_count.f kj4 bt318.2.1 bt318.2.2).bind fun bt321 => (if bt318.1 > (x7_1.size : Int) then (some (([] : List ByteArray), bt321.2.1, true)) else (if bt321.1 > 200 then (some (([] : List ByteArray), bt321.2.1, true)) else (if 0 ≤ bt318.1 then (if bt318.1 ≤ (x7_1.size : Int) then ((er_text.f bt321.2.1 bt321.2.2 bt321.1).bind fun bt324 => (if (x7_1.extract 0 (bt318.1 : Int).toNat).size + bt324.1.size ≤ 9223372036854775807 then (if x6_1.length < 8796093022208 then (er_dictTexts.l0 kj4 a1 t315 (x6_1 ++ [(x7_1.extract 0 (bt318.1 : Int).toNat) ++ bt324.1]) ((x7_1.extract 0 (bt318.1 : Int).toNat) ++ bt324.1) bt324.2.1 bt324.2.2) else (none)) else (none))) else (none)) else (none)))))) = some (r1, r2, r3) := by rw [if_pos rfl] at H; exact H
      replace H := Option.bind_eq_some_iff.mp H
      obtain ⟨⟨t318, t319, t320⟩, A110, H⟩ := H
      replace H : ((er_count.f kj4 t319 t320).bind fun bt321 => (if t318 > (x7_1.size : Int) then (some (([] : List ByteArray), bt321.2.1, true)) else (if bt321.1 > 200 then (some (([] : List ByteArray), bt321.2.1, true)) else (if 0 ≤ t318 then (if t318 ≤ (x7_1.size : Int) then ((er_text.f bt321.2.1 bt321.2.2 bt321.1).bind fun bt324 => (if (x7_1.extract 0 (t318 : Int).toNat).size + bt324.1.size ≤ 9223372036854775807 then (if x6_1.length < 8796093022208 then (er_dictTexts.l0 kj4 a1 t315 (x6_1 ++ [(x7_1.extract 0 (t318 : Int).toNat) ++ bt324.1]) ((x7_1.extract 0 (t318 : Int).toNat) ++ bt324.1) bt324.2.1 bt324.2.2) else (none)) else (none))) else (none)) else (none))))) = some (r1, r2, r3) := H
      have A11 := Ak A110
      clear A110
      replace H := Option.bind_eq_some_iff.mp H
      obtain ⟨⟨t321, t322, t323⟩, A120, H⟩ := H
      replace H : (if t318 > (x7_1.size : Int) then (some (([] : List ByteArray), t322, true)) else (if t321 > 200 then (some (([] : List ByteArray), t322, true)) else (if 0 ≤ t318 then (if t318 ≤ (x7_1.size : Int) then ((er_text.f t322 t323 t321).bind fun bt324 => (if (x7_1.extract 0 (t318 : Int).toNat).size + bt324.1.size ≤ 9223372036854775807 then (if x6_1.length < 8796093022208 then (er_dictTexts.l0 kj4 a1 t315 (x6_1 ++ [(x7_1.extract 0 (t318 : Int).toNat) ++ bt324.1]) ((x7_1.extract 0 (t318 : Int).toNat) ++ bt324.1) bt324.2.1 bt324.2.2) else (none)) else (none))) else (none)) else (none)))) = some (r1, r2, r3) := H
      have A12 := Ak A120
      clear A120
      by_cases c13 : t318 > (x7_1.size : Int)
      ·rw [if_pos c13] at H
       have c13b0 : decide ((x7_1.size : Int) < t318) = true := decide_eq_true c13
       clear c13
       simp only [Option.some.injEq, Prod.mk.injEq] at H
       obtain ⟨rfl, rfl, rfl⟩ := H
       go_wp2_with (first | ((with_reducible refine gate_callee (f := 57) rfl ?_); refine goesL_ (some 27) rfl rfl Try.func57 (by kernel_rfl) rfl #[.pointer (some ⟨g, 0, none⟩)] rfl (by (try simp only [lm]); rfl) ?_; (with_reducible refine (er_count.calls kj4 g x1000_1 x1001_1 t318 t319 t320 w0 _ ?side1 ?side2 A11.out).mono ?_); (case side1 => exact HI0.out); (case side2 => exact HB.out); rintro e w14 ⟨rfl, hi, hb, hk⟩; refine ⟨_, rfl, ?_⟩; have n0_ := Ak (Kd.R_mono (Kd.R_keep (IsS71.apart (show IsS71 w0 _ g x1000_1 x1001_1 from by exact HI0.out) (by exact HO_6.out) (by decide)) hk (fun _ h => h.2)) (fun _ h => h.1)); have n1_ := Ak (KeepBut.trans (by exact HK.out) hk (.inl rfl)); have n2_ := Ak (hb); have n3_ := Ak (hi); clear HO_6 HK HB HI0; have HO_6 := n0_; have HK := n1_; have HB := n2_; have HI0 := n3_; clear n0_ n1_ n2_ n3_; (try clear hb); (try clear hk); (try clear hi)) | ((with_reducible refine gate_callee (f := 57) rfl ?_); refine goesL_ (some 29) rfl rfl Try.func57 (by kernel_rfl) rfl #[.pointer (some ⟨g, 0, none⟩)] rfl (by (try simp only [lm]); rfl) ?_; (with_reducible refine (er_count.calls kj4 g t319 t320 t321 t322 t323 w0 _ ?side1 ?side2 A12.out).mono ?_); (case side1 => exact HI0.out); (case side2 => exact HB.out); rintro e w15 ⟨rfl, hi, hb, hk⟩; refine ⟨_, rfl, ?_⟩; have n0_ := Ak (Kd.R_mono (Kd.R_keep (IsS71.apart (show IsS71 w0 _ g t319 t320 from by exact HI0.out) (by exact HO_6.out) (by decide)) hk (fun _ h => h.2)) (fun _ h => h.1)); have n1_ := Ak (KeepBut.trans (by exact HK.out) hk (.inl rfl)); have n2_ := Ak (hb); have n3_ := Ak (hi); clear HO_6 HK HB HI0; have HO_6 := n0_; have HK := n1_; have HB := n2_; have HI0 := n3_; clear n0_ n1_ n2_ n3_; (try clear hb); (try clear hk); (try clear hi); obtain ⟨ASz16_0, cSz16_0, HGz16, hgz16, HSz16_0⟩ := HI0.out; have hcz16_0 := cellS71_0 HGz16; have hcz16_1 := cellS71_1 HGz16; have hfz16_0 := blk_frozen HGz16 0; have hfz16_1 := blk_frozen HGz16 1; have HCSz16_0 := HSz16_0.1; replace HSz16_0 := HSz16_0.2; clear HGz16 hgz16))
       go_ret
       exact ⟨_, by rfl, by exact Kd.R_nil _ _ _ _ _, by repeat ((with_reducible first | exact HI0.out | apply IsS71.set_1)), by repeat ((with_reducible first | exact HB.out | refine below_set ?_ (IsS71.ge HI0.out))), by repeat ((with_reducible first | exact HK.out | apply KeepBut.set_ ))⟩
      ·rw [if_neg c13] at H
       have c13b0 : decide ((x7_1.size : Int) < t318) = false := decide_eq_false c13
       clear c13
       by_cases c17 : t321 > 200
       ·rw [if_pos c17] at H
        have c17b0 : decide (200 < t321) = true := decide_eq_true c17
        clear c17
        simp only [Option.some.injEq, Prod.mk.injEq] at H
        obtain ⟨rfl, rfl, rfl⟩ := H
        go_wp2_with (first | ((with_reducible refine gate_callee (f := 57) rfl ?_); refine goesL_ (some 27) rfl rfl Try.func57 (by kernel_rfl) rfl #[.pointer (some ⟨g, 0, none⟩)] rfl (by (try simp only [lm]); rfl) ?_; (with_reducible refine (er_count.calls kj4 g x1000_1 x1001_1 t318 t319 t320 w0 _ ?side1 ?side2 A11.out).mono ?_); (case side1 => exact HI0.out); (case side2 => exact HB.out); rintro e w18 ⟨rfl, hi, hb, hk⟩; refine ⟨_, rfl, ?_⟩; have n0_ := Ak (Kd.R_mono (Kd.R_keep (IsS71.apart (show IsS71 w0 _ g x1000_1 x1001_1 from by exact HI0.out) (by exact HO_6.out) (by decide)) hk (fun _ h => h.2)) (fun _ h => h.1)); have n1_ := Ak (KeepBut.trans (by exact HK.out) hk (.inl rfl)); have n2_ := Ak (hb); have n3_ := Ak (hi); clear HO_6 HK HB HI0; have HO_6 := n0_; have HK := n1_; have HB := n2_; have HI0 := n3_; clear n0_ n1_ n2_ n3_; (try clear hb); (try clear hk); (try clear hi)) | ((with_reducible refine gate_callee (f := 57) rfl ?_); refine goesL_ (some 29) rfl rfl Try.func57 (by kernel_rfl) rfl #[.pointer (some ⟨g, 0, none⟩)] rfl (by (try simp only [lm]); rfl) ?_; (with_reducible refine (er_count.calls kj4 g t319 t320 t321 t322 t323 w0 _ ?side1 ?side2 A12.out).mono ?_); (case side1 => exact HI0.out); (case side2 => exact HB.out); rintro e w19 ⟨rfl, hi, hb, hk⟩; refine ⟨_, rfl, ?_⟩; have n0_ := Ak (Kd.R_mono (Kd.R_keep (IsS71.apart (show IsS71 w0 _ g t319 t320 from by exact HI0.out) (by exact HO_6.out) (by decide)) hk (fun _ h => h.2)) (fun _ h => h.1)); have n1_ := Ak (KeepBut.trans (by exact HK.out) hk (.inl rfl)); have n2_ := Ak (hb); have n3_ := Ak (hi); clear HO_6 HK HB HI0; have HO_6 := n0_; have HK := n1_; have HB := n2_; have HI0 := n3_; clear n0_ n1_ n2_ n3_; (try clear hb); (try clear hk); (try clear hi); obtain ⟨ASz20_0, cSz20_0, HGz20, hgz20, HSz20_0⟩ := HI0.out; have hcz20_0 := cellS71_0 HGz20; have hcz20_1 := cellS71_1 HGz20; have hfz20_0 := blk_frozen HGz20 0; have hfz20_1 := blk_frozen HGz20 1; have HCSz20_0 := HSz20_0.1; replace HSz20_0 := HSz20_0.2; clear HGz20 hgz20))
        go_ret
        exact ⟨_, by rfl, by exact Kd.R_nil _ _ _ _ _, by repeat ((with_reducible first | exact HI0.out | apply IsS71.set_1)), by repeat ((with_reducible first | exact HB.out | refine below_set ?_ (IsS71.ge HI0.out))), by repeat ((with_reducible first | exact HK.out | apply KeepBut.set_ ))⟩
       ·rw [if_neg c17] at H
        have c17b0 : decide (200 < t321) = false := decide_eq_false c17
        clear c17
        by_cases c21 : 0 ≤ t318
        ·rw [if_pos c21] at H
         have c21b0 := eq_true c21
         have c21b1 : decide (0 ≤ t318) = true := decide_eq_true c21
         clear c21
         by_cases c22 : t318 ≤ (x7_1.size : Int)
         ·rw [if_pos c22] at H
          have c22b0 := eq_true c22
          have c22b1 : decide (t318 ≤ (x7_1.size : Int)) = true := decide_eq_true c22
          clear c22
          replace H := Option.bind_eq_some_iff.mp H
          obtain ⟨⟨t324, t325, t326⟩, A230, H⟩ := H
          replace H : (if (x7_1.extract 0 (t318 : Int).toNat).size + t324.size ≤ 9223372036854775807 then (if x6_1.length < 8796093022208 then (er_dictTexts.l0 kj4 a1 t315 (x6_1 ++ [(x7_1.extract 0 (t318 : Int).toNat) ++ t324]) ((x7_1.extract 0 (t318 : Int).toNat) ++ t324) t325 t326) else (none)) else (none)) = some (r1, r2, r3) := H
          have A23 := Ak A230
          clear A230
          by_cases c24 : (x7_1.extract 0 (t318 : Int).toNat).size + t324.size ≤ 9223372036854775807
          ·rw [if_pos c24] at H
           have c24b0 := eq_true c24
           have c24b1 : decide ((x7_1.extract 0 (t318 : Int).toNat).size + t324.size ≤ 9223372036854775807) = true := decide_eq_true c24
           try have c24b2 : (9223372036854775807 < (x7_1.extract 0 (t318 : Int).toNat).size + t324.size) = False := eq_false (Nat.not_lt.2 c24)
           try have c24b3 : (9223372036854775807 < (t318 : Int).toNat + t324.size) = False := (by have e_ : (x7_1.extract 0 (t318 : Int).toNat).size = (t318 : Int).toNat := (by rw [ByteArray.size_extract]; have h_ := of_decide_eq_true (show decide (t318 ≤ (x7_1.size : Int)) = true by assumption); omega); rw [← e_]; exact c24b2)
           by_cases c25 : x6_1.length < 8796093022208
           ·rw [if_pos c25] at H
            have LMc25 := Ak c25
            clear c25
            obtain ⟨y327, hy327⟩ : ∃ y_ : List ByteArray, y_ = (x6_1 ++ [(x7_1.extract 0 (t318 : Int).toNat) ++ t324]) := ⟨_, rfl⟩
            replace H : (er_dictTexts.l0 kj4 a1 t315 y327 ((x7_1.extract 0 (t318 : Int).toNat) ++ t324) t325 t326) = some (r1, r2, r3) := by (rw [hy327]; with_reducible exact H)
            have Ny327 := Ak hy327
            clear hy327
            have H' := Ak H
            clear H
            try go_wp2_with (first | ((with_reducible refine gate_callee (f := 57) rfl ?_); refine goesL_ (some 27) rfl rfl Try.func57 (by kernel_rfl) rfl #[.pointer (some ⟨g, 0, none⟩)] rfl (by (try simp only [lm]); rfl) ?_; (with_reducible refine (er_count.calls kj4 g x1000_1 x1001_1 t318 t319 t320 w0 _ ?side1 ?side2 A11.out).mono ?_); (case side1 => exact HI0.out); (case side2 => exact HB.out); rintro e w26 ⟨rfl, hi, hb, hk⟩; refine ⟨_, rfl, ?_⟩; have n0_ := Ak (Kd.R_mono (Kd.R_keep (IsS71.apart (show IsS71 w0 _ g x1000_1 x1001_1 from by exact HI0.out) (by exact HO_6.out) (by decide)) hk (fun _ h => h.2)) (fun _ h => h.1)); have n1_ := Ak (KeepBut.trans (by exact HK.out) hk (.inl rfl)); have n2_ := Ak (hb); have n3_ := Ak (hi); clear HO_6 HK HB HI0; have HO_6 := n0_; have HK := n1_; have HB := n2_; have HI0 := n3_; clear n0_ n1_ n2_ n3_; (try clear hb); (try clear hk); (try clear hi)) | ((with_reducible refine gate_callee (f := 57) rfl ?_); refine goesL_ (some 29) rfl rfl Try.func57 (by kernel_rfl) rfl #[.pointer (some ⟨g, 0, none⟩)] rfl (by (try simp only [lm]); rfl) ?_; (with_reducible refine (er_count.calls kj4 g t319 t320 t321 t322 t323 w0 _ ?side1 ?side2 A12.out).mono ?_); (case side1 => exact HI0.out); (case side2 => exact HB.out); rintro e w27 ⟨rfl, hi, hb, hk⟩; refine ⟨_, rfl, ?_⟩; have n0_ := Ak (Kd.R_mono (Kd.R_keep (IsS71.apart (show IsS71 w0 _ g t319 t320 from by exact HI0.out) (by exact HO_6.out) (by decide)) hk (fun _ h => h.2)) (fun _ h => h.1)); have n1_ := Ak (KeepBut.trans (by exact HK.out) hk (.inl rfl)); have n2_ := Ak (hb); have n3_ := Ak (hi); clear HO_6 HK HB HI0; have HO_6 := n0_; have HK := n1_; have HB := n2_; have HI0 := n3_; clear n0_ n1_ n2_ n3_; (try clear hb); (try clear hk); (try clear hi)))
            have n0_ := Ak (Kd.R_drew HO_6.out)
            have n1_ := Ak (IsS71.drew HI0.out)
            have n2_ := Ak (keep_drew HK.out)
            have n3_ := Ak (below_drew1 HB.out)
            clear HO_6 HI0 HK HB
            have HO_6 := n0_
            have HI0 := n1_
            have HK := n2_
            have HB := n3_
            clear n0_ n1_ n2_ n3_
            refine start_ (n := 8) (S := fun w' => True) (ds := []) #[false, false, false, false, false, false, false, false] (by kernel_rfl) rfl rfl trivial (fun hHeld => ?_); refine with_tabW er_dictTexts.tab9 er_dictTexts.bits9 (fun HT_ HW_ => ?_)
            generalize w27.drew = w28 at HO_6 HI0 HK HB hHeld ⊢
            refine pure_ (i := 0) (N := some 41) (v := ?_) (a' := ?_) #[true, false, false, false, false, false, false, false] rfl rfl (any_of HT_.out (by kernel_rfl)) (fun _ _ _ h => h) (Or.inl ⟨by rfl, ?_⟩) ?_ ?_
            rotate_left
            ·intro w'
             go_simp
             with_reducible rfl
            rotate_left
            ·simp only [Act.put, List.setIfInBounds_toArray, List.set_cons_zero, List.set_cons_succ, i64_w, i32_w]
             rfl
            refine pure_ (i := 1) (N := some 42) (v := ?_) (a' := ?_) #[true, true, false, false, false, false, false, false] rfl rfl (any_of HT_.out (by kernel_rfl)) (fun _ _ _ h => h) (Or.inl ⟨by rfl, ?_⟩) ?_ ?_
            rotate_left
            ·intro w'
             go_simp
             with_reducible rfl
            rotate_left
            ·simp only [Act.put, List.setIfInBounds_toArray, List.set_cons_zero, List.set_cons_succ, i64_w, i32_w]
             rfl
            refine pure_ (i := 2) (N := some 43) (v := ?_) (a' := ?_) #[true, true, true, false, false, false, false, false] rfl rfl (any_of HT_.out (by kernel_rfl)) (fun _ _ _ h => h) (Or.inl ⟨by rfl, ?_⟩) ?_ ?_
            rotate_left
            ·intro w'
             go_simp
             with_reducible rfl
            rotate_left
            ·simp only [Act.put, List.setIfInBounds_toArray, List.set_cons_zero, List.set_cons_succ, i64_w, i32_w]
             rfl
            refine pure_ (i := 3) (N := some 44) (v := ?_) (a' := ?_) #[true, true, true, true, false, false, false, false] rfl rfl (any_of HT_.out (by kernel_rfl)) (fun _ _ _ h => h) (Or.inl ⟨by rfl, ?_⟩) ?_ ?_
            rotate_left
            ·intro w'
             go_simp
             with_reducible rfl
            rotate_left
            ·simp only [Act.put, List.setIfInBounds_toArray, List.set_cons_zero, List.set_cons_succ, i64_w, i32_w]
             rfl
            refine pure_ (i := 4) (N := some 45) (v := ?_) (a' := ?_) #[true, true, true, true, true, false, false, false] rfl rfl (any_of HT_.out (by kernel_rfl)) (fun _ _ _ h => h) (Or.inl ⟨by rfl, ?_⟩) ?_ ?_
            rotate_left
            ·intro w'
             go_simp
             with_reducible rfl
            rotate_left
            ·simp only [Act.put, List.setIfInBounds_toArray, List.set_cons_zero, List.set_cons_succ, i64_w, i32_w]
             rfl
            refine one_ (i := 5) (N := some 46) #[true, true, true, true, true, true, false, false] rfl rfl (one_of HT_.out (by kernel_rfl)) (by decide) (fun K hK => ?_)
            refine goes_ Try.func99 (by kernel_rfl) rfl #[.pointer (some ⟨g, 0, none⟩), .int .i64 t321] (by rfl) rfl rfl (by (try simp only [lm]); rfl) ?_
            with_reducible refine (er_text.calls g t322 t323 t321 t324 t325 t326 w0 _ ?side1 ?side2 A23.out).mono ?_
            (case side1 => exact HI0.out)
            (case side2 => exact HB.out)
            rintro e w29 ⟨rfl, hi, hb, hk⟩
            refine ⟨_, rfl, ?_⟩
            have n0_ := Ak (Kd.R_mono (Kd.R_keep (IsS71.apart (show IsS71 w0 _ g t322 t323 from by exact HI0.out) (by exact HO_6.out) (by decide)) hk (fun _ h => h.2)) (fun _ h => h.1))
            have n1_ := Ak (KeepBut.trans (by exact HK.out) hk (.inl rfl))
            have n2_ := Ak (hb)
            have n3_ := Ak (hi)
            clear HO_6 HK HB HI0
            have HO_6 := n0_
            have HK := n1_
            have HB := n2_
            have HI0 := n3_
            clear n0_ n1_ n2_ n3_
            (try clear hb)
            (try clear hb2)
            (try clear hk)
            (try clear hi)
            refine hK.out _ _ trivial (fun hHeld => ?_)
            clear hK K
            refine norm_ (a' := ?_) ?_ ?_
            rotate_left
            ·show Act.put _ (some 46) _ = _
             simp only [Act.put, List.setIfInBounds_toArray, List.set_cons_zero, List.set_cons_succ, i64_w, i32_w]
             rfl
            refine pure_ (i := 6) (N := some 47) (v := ?_) (a' := ?_) #[true, true, true, true, true, true, true, false] rfl rfl (any_of HT_.out (by kernel_rfl)) (fun _ _ _ h => h) (Or.inl ⟨by rfl, ?_⟩) ?_ ?_
            rotate_left
            ·intro w'
             go_simp
             with_reducible rfl
            rotate_left
            ·simp only [Act.put, List.setIfInBounds_toArray, List.set_cons_zero, List.set_cons_succ, i64_w, i32_w]
             rfl
            refine pure_ (i := 7) (N := some 7) (v := ?_) (a' := ?_) #[true, true, true, true, true, true, true, true] rfl rfl (any_of HT_.out (by kernel_rfl)) (fun _ _ _ h => h) (Or.inl ⟨by rfl, ?_⟩) ?_ ?_
            rotate_left
            ·intro w'
             go_simp
             with_reducible rfl
            rotate_left
            ·simp only [Act.put, List.setIfInBounds_toArray, List.set_cons_zero, List.set_cons_succ, i64_w, i32_w]
             rfl
            refine done_ (done_of HT_.out (by kernel_rfl)) ?_
            try go_wp2_with (first | ((with_reducible refine gate_builtin (b := .append) (xs := #[.tmp 48, .tmp 50]) rfl ?_); at_builtin; refine Kd.R_append Kd.string w.heap.size rfl (.tmp 48) (.tmp 50) 52 9 (.string ⟨#[]⟩) 16 rfl Try.underlying52 info9 rfl (by decide) (by omega) u6 x6_1 ((x7_1.extract 0 (t318 : Int).toNat) ++ t324) [.string ((x7_1.extract 0 (t318 : Int).toNat) ++ t324)] (fun _ => True) (fun _ => False) rfl rfl ?aP (fun _ hk => hk.elim) ?aF ?aO (Below.refl _ _) ?aS ?aL ?_; (case aP => exact rfl); (case aF => exact (fun _ _ => trivial)); (case aO => exact (by exact HO_6.out)); (case aS => exact (keep_size (w := w) (g := g) (row := none) (by exact HK.out))); (case aL => have := LMc25.out; omega); intro v328 w30 ho hb hg hat; rw [← Ny327.out] at ho; have n0_ := Ak (IsS71.grown (by exact HI0.out) hg (IsS71.own_ne HI0.out HO_6.out (by decide))); have n1_ := Ak (below_weaken (by exact HB.out) HL.out hb); have n2_ := Ak (KeepBut.trans (by exact HK.out) (KeepBut.of_grown hg g) (Kd.R_base2 HO_6.out)); have n3_ := Ak (ho); clear HI0 HB HK HO_6; have HI0 := n0_; have HB := n1_; have HK := n2_; have HO329 := n3_; clear n0_ n1_ n2_ n3_ ho hb hg hat))
            go_roundg kj4
            case measure => have := HK1.out; have := HJ4.out; omega
            case rel => exact ⟨(y327), ((x7_1.extract 0 (t318 : Int).toNat) ++ t324), (t325), (t326), (by rfl), H', ⟨by have := HK1.out; have := HJ4.out; omega⟩, ⟨by exact HO329.out⟩, ⟨by exact HI0.out⟩, ⟨by exact HK.out⟩, ⟨by exact HB.out⟩⟩
           ·rw [if_neg c25] at H
            exact absurd H (by simp)
          ·rw [if_neg c24] at H
           exact absurd H (by simp)
         ·rw [if_neg c22] at H
          exact absurd H (by simp)
        ·rw [if_neg c21] at H
         exact absurd H (by simp)
     ·replace c10 := Bool.eq_false_iff.mpr c10
      subst c10
      replace H : (if t315 = 0 then (er_dictTexts.j2 kj4 a1 t315 x6_1 true x1000_1 x1001_1) else (er_dictTexts.j2 kj4 a1 t315 x6_1 x1001_1 x1000_1 x1001_1)) = some (r1, r2, r3) := by rw [if_neg (show ¬ (false = true) by decide)] at H; exact H
      have HC31 := Ak H
      clear H
      go_upto_region 11 with (fail)
      go_cut [59] (fun v59 wc => ∃ (kq : Nat) (x59_30 : Bool), v59 = .bool x59_30 ∧ Aside0 (er_dictTexts.j2 kq a1 t315 x6_1 x59_30 x1000_1 x1001_1 = some (r1, r2, r3)) ∧ Aside0 (kq ≤ kj4) ∧ Aside0 (Kd.R Kd.string 9 wc w.heap.size (fun _ => True) u6 x6_1) ∧ Aside0 (IsS71 w0 wc g x1000_1 x1001_1) ∧ Aside0 (KeepBut w wc g none) ∧ Aside0 (Below w0.heap.size w0 wc))
      case first =>
       have H := HC31.out
       clear HC31
       by_cases c32 : t315 = 0
       ·rw [if_pos c32] at H
        have c32b0 : (t315 == 0) = true := beq_iff_eq.mpr c32
        have c32b1 : (t315 != 0) = false := bne_eq_false_iff_eq.mpr c32
        clear c32
        (skip)
        (try rw [c32b1])
        have H' := Ak H
        clear H
        go_wp2
        go_meet
        case rel => exact ⟨_, (true), (by rfl), H', ⟨by have := HK1.out; have := HJ4.out; omega⟩, ⟨by exact HO_6.out⟩, ⟨by exact HI0.out⟩, ⟨by exact HK.out⟩, ⟨by exact HB.out⟩⟩
       ·rw [if_neg c32] at H
        have c32b0 : (t315 == 0) = false := beq_eq_false_iff_ne.mpr c32
        have c32b1 : (t315 != 0) = true := bne_iff_ne.mpr c32
        (skip)
        (try rw [c32b1])
        have H' := Ak H
        clear H
        obtain ⟨ASz33_0, cSz33_0, HGz33, hgz33, HSz33_0⟩ := HI0.out
        have hcz33_0 := cellS71_0 HGz33
        have hcz33_1 := cellS71_1 HGz33
        have hfz33_0 := blk_frozen HGz33 0
        have hfz33_1 := blk_frozen HGz33 1
        have HCSz33_0 := HSz33_0.1
        replace HSz33_0 := HSz33_0.2
        clear HGz33 hgz33
        go_wp2
        go_meet
        case rel => exact ⟨_, (x1001_1), (by rfl), H', ⟨by have := HK1.out; have := HJ4.out; omega⟩, ⟨by exact HO_6.out⟩, ⟨by exact HI0.out⟩, ⟨by exact HK.out⟩, ⟨by exact HB.out⟩⟩
      case rest =>
       clear HC31
       obtain ⟨kq, x59_30, rfl, HA, HJ30, HO_6, HI0, HK, HB⟩ := hcut
       cases kq with
       | zero => exact absurd HA.out (by simp [er_dictTexts.j2])
       | succ kj30 =>
        have H := HA.out
        clear HA
        simp only [er_dictTexts.j2] at H
        by_cases c34 : x59_30 = true
        ·subst c34
         replace H : (some (([] : List ByteArray), x1000_1, true)) = some (r1, r2, r3) := by rw [if_pos rfl] at H; exact H
         simp only [Option.some.injEq, Prod.mk.injEq] at H
         obtain ⟨rfl, rfl, rfl⟩ := H
         obtain ⟨ASz35_0, cSz35_0, HGz35, hgz35, HSz35_0⟩ := HI0.out
         have hcz35_0 := cellS71_0 HGz35
         have hcz35_1 := cellS71_1 HGz35
         have hfz35_0 := blk_frozen HGz35 0
         have hfz35_1 := blk_frozen HGz35 1
         have HCSz35_0 := HSz35_0.1
         replace HSz35_0 := HSz35_0.2
         clear HGz35 hgz35
         go_wp2
         go_ret
         exact ⟨_, by rfl, by exact Kd.R_nil _ _ _ _ _, by repeat ((with_reducible first | exact HI0.out | apply IsS71.set_1)), by repeat ((with_reducible first | exact HB.out | refine below_set ?_ (IsS71.ge HI0.out))), by repeat ((with_reducible first | exact HK.out | apply KeepBut.set_ ))⟩
        ·replace c34 := Bool.eq_false_iff.mpr c34
         subst c34
         replace H : ((e_widthOf.f (wrap64 (t315 - 1))).bind fun t330 => ((er_packed.f kj30 x1000_1 x1001_1 a1 t330).bind fun bt331 => (er_dictTexts.l1 kj30 t315 x6_1 ([] : List ByteArray) bt331.1 (bt331.1.length : Int) 0 bt331.2.1 bt331.2.2))) = some (r1, r2, r3) := by rw [if_neg (show ¬ (false = true) by decide)] at H; exact H
         replace H := Option.bind_eq_some_iff.mp H
         obtain ⟨t330, A360, H⟩ := H
         replace H : ((er_packed.f kj30 x1000_1 x1001_1 a1 t330).bind fun bt331 => (er_dictTexts.l1 kj30 t315 x6_1 ([] : List ByteArray) bt331.1 (bt331.1.length : Int) 0 bt331.2.1 bt331.2.2)) = some (r1, r2, r3) := H
         have A36 := Ak A360
         clear A360
         replace H := Option.bind_eq_some_iff.mp H
         obtain ⟨⟨t331, t334, t335⟩, A370, H⟩ := H
         replace H : (er_dictTexts.l1 kj30 t315 x6_1 ([] : List ByteArray) t331 (t331.length : Int) 0 t334 t335) = some (r1, r2, r3) := H
         have A37 := Ak A370
         clear A370
         have H' := Ak H
         clear H
         go_wp2_with (first | ((with_reducible refine gate_callee (f := 78) rfl ?_); refine goesL_ (some 67) rfl rfl Try.func78 (by kernel_rfl) rfl #[.int .i64 (wrap64 (t315 - 1))] rfl (by (try simp only [lm]); rfl) ?_; (with_reducible refine (e_widthOf.calls (wrap64 (t315 - 1)) t330 _ A36.out).mono ?_); rintro e w' ⟨rfl, ⟨nd, rfl⟩⟩; refine ⟨_, rfl, ?_⟩) | ((with_reducible refine gate_callee (f := 114) rfl ?_); refine goesL_ (some 68) rfl rfl Try.func114 (by kernel_rfl) rfl #[.pointer (some ⟨g, 0, none⟩), .int .i64 a1, .int .i64 t330] rfl (by (try simp only [lm]); rfl) ?_; (with_reducible refine (er_packed.calls kj30 g x1000_1 x1001_1 a1 t330 t331 t334 t335 w0 _ ?side1 ?side2 A37.out).mono ?_); (case side1 => repeat ((with_reducible first | exact HI0.out | apply IsS71.drewN ))); (case side2 => repeat ((with_reducible first | exact HB.out | apply pw_below_drewN ))); rintro e w38 ⟨v332, rfl, ho0, hi, hb, hk⟩; refine ⟨_, rfl, ?_⟩; have n0_ := Ak (Kd.R_mono (Kd.R_keep (IsS71.apart (show IsS71 w0 _ g x1000_1 x1001_1 from by repeat ((with_reducible first | exact HI0.out | apply IsS71.drewN ))) (by (with_reducible repeat (apply Kd.R_drewN)); exact HO_6.out) (by decide)) hk (fun _ h => h.2)) (fun _ h => h.1)); have n1_ := Ak (Kd.R_lower ho0 (keep_size (w := w) (g := g) (row := none) (by repeat ((with_reducible first | exact HK.out | apply keep_drewN ))))); have n2_ := Ak (KeepBut.trans (by repeat ((with_reducible first | exact HK.out | apply keep_drewN ))) hk (.inl rfl)); have n3_ := Ak (hb); have n4_ := Ak (hi); clear HO_6 HK HB HI0; have HO_6 := n0_; have HO333 := n1_; have HK := n2_; have HB := n3_; have HI0 := n4_; clear n0_ n1_ n2_ n3_ n4_; (try clear hb); (try clear hk); (try clear hi); (try clear ho0); obtain ⟨Ao39, co39, eo39⟩ := Kd.R_slice HO333.out; subst eo39))
         go_loopg [10, 70] kj30 (fun kq v10 v70 w' => ∃ (x10_4 : List ByteArray) (x70_4 : Int) (x1001_4 : Bool), v70 = .int .i64 x70_4 ∧ Aside0 (er_dictTexts.l1 kq t315 x6_1 x10_4 t331 (t331.length : Int) x70_4 t334 x1001_4 = some (r1, r2, r3)) ∧ Aside0 (kq ≤ kj30) ∧ Aside0 (Kd.R Kd.string 9 w' w.heap.size (fun k_ => some k_ ≠ (v10 : Value).ownBlock) u6 x6_1) ∧ Aside0 (Kd.R Kd.string 9 w' w.heap.size (fun k_ => some k_ ≠ (u6 : Value).ownBlock) v10 x10_4) ∧ Aside0 (Kd.R (Kd.int .i64) 3 w' w.heap.size (fun _ => True) (.slice Ao39 t331.length co39) t331) ∧ Aside0 (IsS71 w0 w' g t334 x1001_4) ∧ Aside0 (KeepBut w w' g none) ∧ Aside0 (Below w0.heap.size w0 w'))
         case atStart => exact ⟨(([] : List ByteArray)), (0), (t335), (by rfl), H', ⟨Nat.le_refl _⟩, ⟨by exact Kd.R_mono HO_6.out (fun _ hk => (by simp [Value.ownBlock]))⟩, ⟨by exact Kd.R_nil _ _ _ _ _⟩, ⟨by exact HO333.out⟩, ⟨by exact HI0.out⟩, ⟨by exact HK.out⟩, ⟨by exact HB.out⟩⟩
         case round =>
          clear H'
          obtain ⟨x10_4, x70_4, x1001_4, rfl, HA, HK4, HO_6, HO_10, HO_68, HI0, HK, HB⟩ := hrel
          cases gk with
          | zero => exact absurd HA.out (by simp [er_dictTexts.l1])
          | succ k4 =>
           have H := HA.out
           clear HA
           simp only [er_dictTexts.l1] at H
           by_cases c40 : x70_4 < (t331.length : Int)
           ·rw [if_pos c40] at H
            have c40b0 : decide (x70_4 < (t331.length : Int)) = true := decide_eq_true c40
            clear c40
            by_cases c41 : 0 ≤ x70_4
            ·rw [if_pos c41] at H
             have c41b0 : decide (0 ≤ x70_4) = true := decide_eq_true c41
             clear c41
             by_cases c42 : x70_4 < (t331.length : Int)
             ·rw [if_pos c42] at H
              have c42b0 : decide (x70_4 < (t331.length : Int)) = true := decide_eq_true c42
              clear c42
              by_cases c43 : (rd t331 x70_4) ≥ t315
              ·rw [if_pos c43] at H
               have c43b0 : decide (t315 ≤ (rd t331 x70_4)) = true := decide_eq_true c43
               clear c43
               simp only [Option.some.injEq, Prod.mk.injEq] at H
               obtain ⟨rfl, rfl, rfl⟩ := H
               have p336 : 0 ≤ (x70_4 : Int) := of_decide_eq_true (by (with_reducible assumption))
               have q336 : x70_4 < (t331.length : Int) := of_decide_eq_true (by (with_reducible assumption))
               obtain ⟨ad336, e336, hx336_0⟩ := Kd.at_int (Kd.R_reads' HO_68.out).2.2 x70_4 p336 q336
               cases e336
               replace p336 := eq_true p336
               replace q336 := eq_true q336
               obtain ⟨ASz44_0, cSz44_0, HGz44, hgz44, HSz44_0⟩ := HI0.out
               have hcz44_0 := cellS71_0 HGz44
               have hcz44_1 := cellS71_1 HGz44
               have hfz44_0 := blk_frozen HGz44 0
               have hfz44_1 := blk_frozen HGz44 1
               have HCSz44_0 := HSz44_0.1
               replace HSz44_0 := HSz44_0.2
               clear HGz44 hgz44
               go_wp2
               go_ret
               exact ⟨_, by rfl, by exact Kd.R_nil _ _ _ _ _, by repeat ((with_reducible first | exact HI0.out | apply IsS71.set_1)), by repeat ((with_reducible first | exact HB.out | refine below_set ?_ (IsS71.ge HI0.out))), by repeat ((with_reducible first | exact HK.out | apply KeepBut.set_ ))⟩
              ·rw [if_neg c43] at H
               have c43b0 : decide (t315 ≤ (rd t331 x70_4)) = false := decide_eq_false c43
               clear c43
               by_cases c45 : 0 ≤ (rd t331 x70_4)
               ·rw [if_pos c45] at H
                have c45b0 : decide (0 ≤ (rd t331 x70_4)) = true := decide_eq_true c45
                clear c45
                by_cases c46 : (rd t331 x70_4) < (x6_1.length : Int)
                ·rw [if_pos c46] at H
                 have c46b0 : decide ((rd t331 x70_4) < (x6_1.length : Int)) = true := decide_eq_true c46
                 clear c46
                 by_cases c47 : x10_4.length < 8796093022208
                 ·rw [if_pos c47] at H
                  have LMc47 := Ak c47
                  clear c47
                  obtain ⟨y338, hy338⟩ : ∃ y_ : List ByteArray, y_ = (x10_4 ++ [rdOf ByteArray.empty x6_1 (rd t331 x70_4)]) := ⟨_, rfl⟩
                  replace H : (er_dictTexts.l1 k4 t315 x6_1 y338 t331 (t331.length : Int) (wrap64 (x70_4 + 1)) t334 x1001_4) = some (r1, r2, r3) := by (rw [hy338]; with_reducible exact H)
                  have Ny338 := Ak hy338
                  clear hy338
                  have H' := Ak H
                  clear H
                  have p336 : 0 ≤ (x70_4 : Int) := of_decide_eq_true (by (with_reducible assumption))
                  have q336 : x70_4 < (t331.length : Int) := of_decide_eq_true (by (with_reducible assumption))
                  obtain ⟨ad336, e336, hx336_0⟩ := Kd.at_int (Kd.R_reads' HO_68.out).2.2 x70_4 p336 q336
                  cases e336
                  replace p336 := eq_true p336
                  replace q336 := eq_true q336
                  obtain ⟨Ao48, co48, eo48⟩ := Kd.R_slice HO_6.out
                  subst eo48
                  have p337 : 0 ≤ ((rd t331 x70_4) : Int) := of_decide_eq_true (by (with_reducible assumption))
                  have q337 : (rd t331 x70_4) < (x6_1.length : Int) := of_decide_eq_true (by (with_reducible assumption))
                  obtain ⟨ad337, e337, hx337_0⟩ := Kd.at_string (Kd.R_reads' HO_6.out).2.2 (rd t331 x70_4) p337 q337
                  cases e337
                  replace p337 := eq_true p337
                  replace q337 := eq_true q337
                  go_wp2_with (first | ((with_reducible refine gate_builtin (b := .append) (xs := #[.tmp 80, .tmp 85]) rfl ?_); at_builtin; refine Kd.R_append Kd.string w.heap.size rfl (.tmp 80) (.tmp 85) 52 9 (.string ⟨#[]⟩) 16 rfl Try.underlying52 info9 rfl (by decide) (by omega) u10 x10_4 (rdOf ByteArray.empty x6_1 (rd t331 x70_4)) [.string (rdOf ByteArray.empty x6_1 (rd t331 x70_4))] (fun k_ => some k_ ≠ (.slice (some ad337) x6_1.length co48 : Value).ownBlock) (fun _ => False) rfl rfl ?aP (fun _ hk => hk.elim) ?aF ?aO (Below.refl _ _) ?aS ?aL ?_; (case aP => exact rfl); (case aF => exact (fun k_ hk => Kd.fresh' (Kd.R_lt (by exact HO_6.out)) k_ hk)); (case aO => exact (by exact HO_10.out)); (case aS => exact (keep_size (w := w) (g := g) (row := none) (by exact HK.out))); (case aL => have := LMc47.out; omega); intro v339 w49 ho hb hg hat; rw [← Ny338.out] at ho; have n0_ := Ak (Kd.R_after (ok := (fun _ => True)) (by exact Kd.R_mono HO_6.out (fun _ hk => ⟨trivial, hk⟩)) hg hat); have n1_ := Ak (Kd.R_over' (by exact HO_68.out) (Kd.R_typed (by exact HO_10.out)) (by decide) hg); have n2_ := Ak (IsS71.grown (by exact HI0.out) hg (IsS71.own_ne HI0.out HO_10.out (by decide))); have n3_ := Ak (below_weaken (by exact HB.out) HL.out hb); have n4_ := Ak (KeepBut.trans (by exact HK.out) (KeepBut.of_grown hg g) (Kd.R_base2 HO_10.out)); have n5_ := Ak (ho); clear HO_6 HO_68 HI0 HB HK HO_10; have HO_6 := n0_; have HO_68 := n1_; have HI0 := n2_; have HB := n3_; have HK := n4_; have HO340 := n5_; clear n0_ n1_ n2_ n3_ n4_ n5_ ho hb hg hat))
                  go_roundg k4
                  case measure => have := HK1.out; have := HJ4.out; have := HJ30.out; have := HK4.out; omega
                  case rel => exact ⟨(y338), (wrap64 (x70_4 + 1)), (x1001_4), (by rfl), H', ⟨by have := HK1.out; have := HJ4.out; have := HJ30.out; have := HK4.out; omega⟩, ⟨by exact Kd.R_mono HO_6.out (fun _ hk => hk.2)⟩, ⟨by exact HO340.out⟩, ⟨by exact HO_68.out⟩, ⟨by exact HI0.out⟩, ⟨by exact HK.out⟩, ⟨by exact HB.out⟩⟩
                 ·rw [if_neg c47] at H
                  exact absurd H (by simp)
                ·rw [if_neg c46] at H
                 exact absurd H (by simp)
               ·rw [if_neg c45] at H
                exact absurd H (by simp)
             ·rw [if_neg c42] at H
              exact absurd H (by simp)
            ·rw [if_neg c41] at H
             exact absurd H (by simp)
           ·rw [if_neg c40] at H
            have c40b0 : decide (x70_4 < (t331.length : Int)) = false := decide_eq_false c40
            clear c40
            simp only [Option.some.injEq, Prod.mk.injEq] at H
            obtain ⟨rfl, rfl, rfl⟩ := H
            go_wp2
            go_ret
            exact ⟨_, by rfl, by exact Kd.R_mono HO_10.out (fun _ hk => trivial), by exact HI0.out, by exact HB.out, by exact HK.out⟩
mutual
def e_decodeTexts.j0 : Nat → List Int → Int → Int → Bool → List Int → Bool → Option (List ByteArray × Bool)
 | 0, _, _, _, _, _, _ => none
 | k + 1, x0, x5, x6, x20, x342000, x342001 => if x20 = true then (some (([] : List ByteArray), false)) else (if x6 = 0 then (e_decodeTexts.j1 k x0 x5 x6 ([] : List ByteArray) true x342000 x342001) else (e_decodeTexts.j1 k x0 x5 x6 ([] : List ByteArray) x342001 x342000 x342001))
def e_decodeTexts.j4 : Nat → List Int → Int → List ByteArray → List Int → Bool → Option (List ByteArray × Bool)
 | 0, _, _, _, _, _ => none
 | k + 1, x0, x5, x7, x342000, x342001 => if x342001 = true then (some (([] : List ByteArray), false)) else ((e_checkTexts.f k x7).bind fun t362 => (if t362 = 0 then ((e_encodeTexts.f k x5 x7).bind fun t363 => ((bytes_Equal.f t363 x0).bind fun t366 => (if t366 = true then (some (x7, true)) else (some (([] : List ByteArray), false))))) else (some (([] : List ByteArray), false))))
def e_decodeTexts.j1 : Nat → List Int → Int → Int → List ByteArray → Bool → List Int → Bool → Option (List ByteArray × Bool)
 | 0, _, _, _, _, _, _, _ => none
 | k + 1, x0, x5, x6, x7, x39, x342000, x342001 => if x39 = true then (e_decodeTexts.j4 k x0 x5 x7 x342000 x342001) else (if x5 = 3 then ((er_dictTexts.f k x342000 x342001 x6).bind fun bt348 => (e_decodeTexts.j4 k x0 x5 bt348.1 bt348.2.1 bt348.2.2)) else (e_decodeTexts.l0 k x0 x5 x6 x7 x342000 x342001))
def e_decodeTexts.l0 : Nat → List Int → Int → Int → List ByteArray → List Int → Bool → Option (List ByteArray × Bool)
 | 0, _, _, _, _, _, _ => none
 | k + 1, x0, x5, x6, x7, x342000, x342001 => if (x7.length : Int) < x6 then (e_decodeTexts.j3 k x0 x5 x6 x7 (!x342001) x342000 x342001) else (e_decodeTexts.j3 k x0 x5 x6 x7 false x342000 x342001)
def e_decodeTexts.j3 : Nat → List Int → Int → Int → List ByteArray → Bool → List Int → Bool → Option (List ByteArray × Bool)
 | 0, _, _, _, _, _, _, _ => none
 | k + 1, x0, x5, x6, x7, x31, x342000, x342001 => if x31 = true then ((er_count.f k x342000 x342001).bind fun bt353 => ((er_text.f bt353.2.1 bt353.2.2 bt353.1).bind fun bt356 => (if x7.length < 8796093022208 then (e_decodeTexts.l0 k x0 x5 x6 (x7 ++ [bt356.1]) bt356.2.1 bt356.2.2) else (none)))) else (e_decodeTexts.j4 k x0 x5 x7 x342000 x342001)
end
def e_decodeTexts.f (k : Nat) (l0 : List Int) : Option (List ByteArray × Bool) := (er_byte.f l0 false).bind fun bt342 => ((er_long.f k bt342.2.1 bt342.2.2).bind fun bt345 => (if bt342.1 = 1 then (e_decodeTexts.j0 k l0 bt342.1 bt345.1 false bt345.2.1 bt345.2.2) else (e_decodeTexts.j0 k l0 bt342.1 bt345.1 (bt342.1 != 3) bt345.2.1 bt345.2.2)))
theorem e_decodeTexts.mono_l : ∀ k, (∀ y0 y1 y2 y3 y4 y5, LeO (e_decodeTexts.j0 k y0 y1 y2 y3 y4 y5) (e_decodeTexts.j0 (k + 1) y0 y1 y2 y3 y4 y5)) ∧ (∀ y0 y1 y2 y3 y4, LeO (e_decodeTexts.j4 k y0 y1 y2 y3 y4) (e_decodeTexts.j4 (k + 1) y0 y1 y2 y3 y4)) ∧ (∀ y0 y1 y2 y3 y4 y5 y6, LeO (e_decodeTexts.j1 k y0 y1 y2 y3 y4 y5 y6) (e_decodeTexts.j1 (k + 1) y0 y1 y2 y3 y4 y5 y6)) ∧ (∀ y0 y1 y2 y3 y4 y5, LeO (e_decodeTexts.l0 k y0 y1 y2 y3 y4 y5) (e_decodeTexts.l0 (k + 1) y0 y1 y2 y3 y4 y5)) ∧ (∀ y0 y1 y2 y3 y4 y5 y6, LeO (e_decodeTexts.j3 k y0 y1 y2 y3 y4 y5 y6) (e_decodeTexts.j3 (k + 1) y0 y1 y2 y3 y4 y5 y6))
 | 0 => ⟨fun _ _ _ _ _ _ r h => by simp [e_decodeTexts.j0] at h, fun _ _ _ _ _ r h => by simp [e_decodeTexts.j4] at h, fun _ _ _ _ _ _ _ r h => by simp [e_decodeTexts.j1] at h, fun _ _ _ _ _ _ r h => by simp [e_decodeTexts.l0] at h, fun _ _ _ _ _ _ _ r h => by simp [e_decodeTexts.j3] at h⟩
 | k + 1 => by
  obtain ⟨ih0, ih1, ih2, ih3, ih4⟩ := e_decodeTexts.mono_l k
  refine ⟨?_, ?_, ?_, ?_, ?_⟩ <;> intros
  all_goals (first | unfold e_decodeTexts.j0 | unfold e_decodeTexts.j4 | unfold e_decodeTexts.j1 | unfold e_decodeTexts.l0 | unfold e_decodeTexts.j3)
  all_goals
   repeat' first
   | (with_reducible exact ih1 _ _ _ _ _)
   | (with_reducible exact ih2 _ _ _ _ _ _ _)
   | (with_reducible exact ih3 _ _ _ _ _ _)
   | (with_reducible exact ih4 _ _ _ _ _ _ _)
   | (with_reducible exact e_checkTexts.mono _ _)
   | (with_reducible exact e_encodeTexts.mono _ _ _)
   | (with_reducible exact er_count.mono _ _ _)
   | (with_reducible exact er_dictTexts.mono _ _ _ _)
   | (with_reducible exact LeO.refl _)
   | (with_reducible refine LeO.ite ?_ ?_)
   | (with_reducible refine LeO.bind ?_ (fun _ => ?_))
theorem e_decodeTexts.mono : ∀ a0 k, LeO (e_decodeTexts.f k a0) (e_decodeTexts.f (k + 1) a0) := by
 intro a0 k
 obtain ⟨ih0, ih1, ih2, ih3, ih4⟩ := e_decodeTexts.mono_l k
 unfold e_decodeTexts.f
 repeat' first
  | (with_reducible exact ih0 _ _ _ _ _ _)
  | (with_reducible exact er_long.mono _ _ _)
  | (with_reducible exact LeO.refl _)
  | (with_reducible refine LeO.ite ?_ ?_)
  | (with_reducible refine LeO.bind ?_ (fun _ => ?_))
set_option maxHeartbeats 8000000 in
set_option maxRecDepth 100000 in
theorem e_decodeTexts.calls (k : Nat) (A0 : Option Addr) (c0 : Nat) (l0 : List Int) (r1 : List ByteArray) (r2 : Bool) (w : World) (hr0 : Kd.C (Kd.int .u8) w A0 l0.length l0) (hc0 : l0.length ≤ c0) (h : e_decodeTexts.f k l0 = some (r1, r2)) :
 Calls Try.prog 70 #[.slice A0 l0.length c0] w fun e w' => ∃ v0_ : Value, e = .returned (.tuple #[v0_, .bool r2]) ∧ Kd.R Kd.string 9 w' w.heap.size (fun _ => True) v0_ r1 ∧ Below w.heap.size w w' := by
 have hu71 := Try.underlying71
 have HR0 := Ak hr0
 have HC0 := Ak hc0
 clear hr0 hc0
 have HB := Ak (Below.refl w.heap.size w)
 have H : ((er_byte.f l0 false).bind fun bt342 => ((er_long.f k bt342.2.1 bt342.2.2).bind fun bt345 => (if bt342.1 = 1 then (e_decodeTexts.j0 k l0 bt342.1 bt345.1 false bt345.2.1 bt345.2.2) else (e_decodeTexts.j0 k l0 bt342.1 bt345.1 (bt342.1 != 3) bt345.2.1 bt345.2.2)))) = some (r1, r2) := h
 clear h
 replace H := Option.bind_eq_some_iff.mp H
 obtain ⟨⟨t342, t343, t344⟩, A20, H⟩ := H
 replace H : ((er_long.f k t343 t344).bind fun bt345 => (if t342 = 1 then (e_decodeTexts.j0 k l0 t342 bt345.1 false bt345.2.1 bt345.2.2) else (e_decodeTexts.j0 k l0 t342 bt345.1 (t342 != 3) bt345.2.1 bt345.2.2))) = some (r1, r2) := H
 have A2 := Ak A20
 clear A20
 replace H := Option.bind_eq_some_iff.mp H
 obtain ⟨⟨t345, t346, t347⟩, A30, H⟩ := H
 replace H : (if t342 = 1 then (e_decodeTexts.j0 k l0 t342 t345 false t346 t347) else (e_decodeTexts.j0 k l0 t342 t345 (t342 != 3) t346 t347)) = some (r1, r2) := H
 have A3 := Ak A30
 clear A30
 have HC4 := Ak H
 clear H
 go_enter Try.func70, Try.ntmps70
 go_upto_region 3 with (first | ((with_reducible refine gate_dst (N := 10) rfl ?_); refine box_event ?hg (N := 10) ?hd (cs := #[.slice A0 l0.length c0, .bool false]) (t := 71) ?hr ?_; (case hd => rfl); (case hg => rfl); (case hr => (go_simp; done)); intro gb341 hg w5 hbox hb; have n0_ := Ak (below_step (by exact HB.out) hb); have n1_ := Ak ((by rw [hg]; exact (below_size (by exact HB.out)) : w.heap.size ≤ gb341)); have n2_ := Ak ((by rw [hg]; exact (below_size (by exact HB.out)) : w.heap.size ≤ gb341)); have n3_ := Ak ((show IsS71 w w5 gb341 l0 false from ⟨_, _, hbox, (by rw [hg]; exact (below_size (by exact HB.out)) : w.heap.size ≤ gb341), ⟨HC0.out, HR0.out⟩⟩)); clear HB; have HB := n0_; have GW341 := n1_; have GE341 := n2_; have HI341 := n3_; clear n0_ n1_ n2_ n3_ hb hbox hg) | ((with_reducible refine gate_callee (f := 56) rfl ?_); refine goesL_ (some 12) rfl rfl Try.func56 (by kernel_rfl) rfl #[.pointer (some ⟨gb341, 0, none⟩)] rfl (by (try simp only [lm]); rfl) ?_; (with_reducible refine (er_byte.calls gb341 l0 false t342 t343 t344 w _ ?side1 ?side2 A2.out).mono ?_); (case side1 => exact HI341.out); (case side2 => exact HB.out); rintro e w6 ⟨rfl, hi, hb, hk⟩; refine ⟨_, rfl, ?_⟩; have n0_ := Ak (hb); have n1_ := Ak (hi); clear HB HI341; have HB := n0_; have HI341 := n1_; clear n0_ n1_; (try clear hb); (try clear hk); (try clear hi)) | ((with_reducible refine gate_callee (f := 79) rfl ?_); refine goesL_ (some 14) rfl rfl Try.func79 (by kernel_rfl) rfl #[.pointer (some ⟨gb341, 0, none⟩)] rfl (by (try simp only [lm]); rfl) ?_; (with_reducible refine (er_long.calls k gb341 t343 t344 t345 t346 t347 w _ ?side1 ?side2 A3.out).mono ?_); (case side1 => exact HI341.out); (case side2 => exact HB.out); rintro e w7 ⟨rfl, hi, hb, hk⟩; refine ⟨_, rfl, ?_⟩; have n0_ := Ak (hb); have n1_ := Ak (hi); clear HB HI341; have HB := n0_; have HI341 := n1_; clear n0_ n1_; (try clear hb); (try clear hk); (try clear hi)))
 (try simp only [Act.put, List.setIfInBounds_toArray, List.set_cons_zero, List.set_cons_succ])
 go_cut [20] (fun v20 wc => ∃ (kq : Nat) (x20_3 : Bool), v20 = .bool x20_3 ∧ Aside0 (e_decodeTexts.j0 kq l0 t342 t345 x20_3 t346 t347 = some (r1, r2)) ∧ Aside0 (kq ≤ k) ∧ Aside0 (IsS71 w wc gb341 t346 t347) ∧ Aside0 (Below w.heap.size w wc))
 case first =>
  have H := HC4.out
  clear HC4
  by_cases c8 : t342 = 1
  ·rw [if_pos c8] at H
   have c8b0 : (t342 == 1) = true := beq_iff_eq.mpr c8
   have c8b1 : (t342 != 1) = false := bne_eq_false_iff_eq.mpr c8
   clear c8
   (skip)
   (try rw [c8b1])
   have H' := Ak H
   clear H
   go_wp2
   go_meet
   case rel => exact ⟨_, (false), (by rfl), H', ⟨by omega⟩, ⟨by exact HI341.out⟩, ⟨by exact HB.out⟩⟩
  ·rw [if_neg c8] at H
   have c8b0 : (t342 == 1) = false := beq_eq_false_iff_ne.mpr c8
   have c8b1 : (t342 != 1) = true := bne_iff_ne.mpr c8
   (skip)
   (try rw [c8b1])
   have H' := Ak H
   clear H
   go_wp2
   go_meet
   case rel => exact ⟨_, ((t342 != 3)), (by rfl), H', ⟨by omega⟩, ⟨by exact HI341.out⟩, ⟨by exact HB.out⟩⟩
 case rest =>
  clear HC4
  obtain ⟨kq, x20_3, rfl, HA, HJ3, HI341, HB⟩ := hcut
  cases kq with
  | zero => exact absurd HA.out (by simp [e_decodeTexts.j0])
  | succ kj3 =>
   have H := HA.out
   clear HA
   simp only [e_decodeTexts.j0] at H
   by_cases c9 : x20_3 = true
   ·subst c9
    replace H : (some (([] : List ByteArray), false)) = some (r1, r2) := by rw [if_pos rfl] at H; exact H
    simp only [Option.some.injEq, Prod.mk.injEq] at H
    obtain ⟨rfl, rfl⟩ := H
    go_wp2
    go_ret2
    exact ⟨_, by rfl, by exact Kd.R_nil _ _ _ _ _, by exact HB.out⟩
   ·replace c9 := Bool.eq_false_iff.mpr c9
    subst c9
    replace H : (if t345 = 0 then (e_decodeTexts.j1 kj3 l0 t342 t345 ([] : List ByteArray) true t346 t347) else (e_decodeTexts.j1 kj3 l0 t342 t345 ([] : List ByteArray) t347 t346 t347)) = some (r1, r2) := by rw [if_neg (show ¬ (false = true) by decide)] at H; exact H
    have HC10 := Ak H
    clear H
    go_upto_block 0 with (fail)
    go_cut [7] (fun v7 wc => ∃ (kq : Nat) (x7_9 : List ByteArray) (x342000_9 : List Int) (x342001_9 : Bool), Aside0 (e_decodeTexts.j4 kq l0 t342 x7_9 x342000_9 x342001_9 = some (r1, r2)) ∧ Aside0 (kq ≤ kj3) ∧ Aside0 (Kd.R Kd.string 9 wc w.heap.size (fun _ => True) v7 x7_9) ∧ Aside0 (IsS71 w wc gb341 x342000_9 x342001_9) ∧ Aside0 (Below w.heap.size w wc))
    case first =>
     have H := HC10.out
     clear HC10
     have HC11 := Ak H
     clear H
     go_upto_region 8 with (fail)
     go_cut [39] (fun v39 wc => ∃ (kq : Nat) (x39_10 : Bool), v39 = .bool x39_10 ∧ Aside0 (e_decodeTexts.j1 kq l0 t342 t345 ([] : List ByteArray) x39_10 t346 t347 = some (r1, r2)) ∧ Aside0 (kq ≤ kj3) ∧ Aside0 (Kd.R Kd.string 9 wc w.heap.size (fun _ => True) (.slice none 0 0) ([] : List ByteArray)) ∧ Aside0 (IsS71 w wc gb341 t346 t347) ∧ Aside0 (Below w.heap.size w wc))
     case first =>
      have H := HC11.out
      clear HC11
      by_cases c12 : t345 = 0
      ·rw [if_pos c12] at H
       have c12b0 : (t345 == 0) = true := beq_iff_eq.mpr c12
       have c12b1 : (t345 != 0) = false := bne_eq_false_iff_eq.mpr c12
       clear c12
       (skip)
       (try rw [c12b1])
       have H' := Ak H
       clear H
       go_wp2
       go_meet
       case rel => exact ⟨_, (true), (by rfl), H', ⟨by have := HJ3.out; omega⟩, ⟨by exact Kd.R_nil _ _ _ _ _⟩, ⟨by exact HI341.out⟩, ⟨by exact HB.out⟩⟩
      ·rw [if_neg c12] at H
       have c12b0 : (t345 == 0) = false := beq_eq_false_iff_ne.mpr c12
       have c12b1 : (t345 != 0) = true := bne_iff_ne.mpr c12
       (skip)
       (try rw [c12b1])
       have H' := Ak H
       clear H
       obtain ⟨ASz13_0, cSz13_0, HGz13, hgz13, HSz13_0⟩ := HI341.out
       have hcz13_0 := cellS71_0 HGz13
       have hcz13_1 := cellS71_1 HGz13
       have hfz13_0 := blk_frozen HGz13 0
       have hfz13_1 := blk_frozen HGz13 1
       have HCSz13_0 := HSz13_0.1
       replace HSz13_0 := HSz13_0.2
       clear HGz13 hgz13
       go_wp2
       go_meet
       case rel => exact ⟨_, (t347), (by rfl), H', ⟨by have := HJ3.out; omega⟩, ⟨by exact Kd.R_nil _ _ _ _ _⟩, ⟨by exact HI341.out⟩, ⟨by exact HB.out⟩⟩
     case rest =>
      clear HC11
      obtain ⟨kq, x39_10, rfl, HA, HJ10, HO_7, HI341, HB⟩ := hcut
      cases kq with
      | zero => exact absurd HA.out (by simp [e_decodeTexts.j1])
      | succ kj10 =>
       have H := HA.out
       clear HA
       simp only [e_decodeTexts.j1] at H
       by_cases c14 : x39_10 = true
       ·subst c14
        replace H : (e_decodeTexts.j4 kj10 l0 t342 ([] : List ByteArray) t346 t347) = some (r1, r2) := by rw [if_pos rfl] at H; exact H
        have H' := Ak H
        clear H
        go_wp2
        go_meet
        case rel => exact ⟨_, (([] : List ByteArray)), (t346), (t347), H', ⟨by have := HJ3.out; have := HJ10.out; omega⟩, ⟨by exact HO_7.out⟩, ⟨by exact HI341.out⟩, ⟨by exact HB.out⟩⟩
       ·replace c14 := Bool.eq_false_iff.mpr c14
        subst c14
        replace H : (if t342 = 3 then ((er_dictTexts.f kj10 t346 t347 t345).bind fun bt348 => (e_decodeTexts.j4 kj10 l0 t342 bt348.1 bt348.2.1 bt348.2.2)) else (e_decodeTexts.l0 kj10 l0 t342 t345 ([] : List ByteArray) t346 t347)) = some (r1, r2) := by rw [if_neg (show ¬ (false = true) by decide)] at H; exact H
        by_cases c15 : t342 = 3
        ·rw [if_pos c15] at H
         have c15b0 : (t342 == 3) = true := beq_iff_eq.mpr c15
         have c15b1 : (t342 != 3) = false := bne_eq_false_iff_eq.mpr c15
         clear c15
         replace H := Option.bind_eq_some_iff.mp H
         obtain ⟨⟨t348, t351, t352⟩, A160, H⟩ := H
         replace H : (e_decodeTexts.j4 kj10 l0 t342 t348 t351 t352) = some (r1, r2) := H
         have A16 := Ak A160
         clear A160
         have H' := Ak H
         clear H
         go_wp2_with (first | ((with_reducible refine gate_callee (f := 98) rfl ?_); refine goesL_ (some 53) rfl rfl Try.func98 (by kernel_rfl) rfl #[.pointer (some ⟨gb341, 0, none⟩), .int .i64 t345] rfl (by (try simp only [lm]); rfl) ?_; (with_reducible refine (er_dictTexts.calls kj10 gb341 t346 t347 t345 t348 t351 t352 w _ ?side1 ?side2 A16.out).mono ?_); (case side1 => exact HI341.out); (case side2 => exact HB.out); rintro e w17 ⟨v349, rfl, ho0, hi, hb, hk⟩; refine ⟨_, rfl, ?_⟩; have n0_ := Ak (Kd.R_mono (Kd.R_told (Kd.R_oldK (IsS71.apart (show IsS71 w _ gb341 t346 t347 from by exact HI341.out) (by exact HO_7.out) (by decide)) hk) (Kd.R_base ho0)) (fun _ h_ => h_.1)); have n1_ := Ak (Kd.R_lower (Kd.R_new' ho0 (Kd.R_lt (by exact HO_7.out))) (below_size (by exact HB.out))); have n2_ := Ak (hb); have n3_ := Ak (hi); clear HO_7 HB HI341; have HO_7 := n0_; have HO350 := n1_; have HB := n2_; have HI341 := n3_; clear n0_ n1_ n2_ n3_; (try clear hb); (try clear hk); (try clear hi); (try clear ho0)))
         go_meet
         case rel => exact ⟨_, (t348), (t351), (t352), H', ⟨by have := HJ3.out; have := HJ10.out; omega⟩, ⟨by exact Kd.R_mono HO350.out (fun _ hk => trivial)⟩, ⟨by exact HI341.out⟩, ⟨by exact HB.out⟩⟩
        ·rw [if_neg c15] at H
         have c15b0 : (t342 == 3) = false := beq_eq_false_iff_ne.mpr c15
         have c15b1 : (t342 != 3) = true := bne_iff_ne.mpr c15
         have H' := Ak H
         clear H
         go_wp2
         go_loopg [7] kj10 (fun kq v7 w' => ∃ (x7_3 : List ByteArray) (x342000_3 : List Int) (x342001_3 : Bool), Aside0 (e_decodeTexts.l0 kq l0 t342 t345 x7_3 x342000_3 x342001_3 = some (r1, r2)) ∧ Aside0 (kq ≤ kj10) ∧ Aside0 (Kd.R Kd.string 9 w' w.heap.size (fun _ => True) v7 x7_3) ∧ Aside0 (IsS71 w w' gb341 x342000_3 x342001_3) ∧ Aside0 (Below w.heap.size w w'))
         case atStart => exact ⟨(([] : List ByteArray)), (t346), (t347), H', ⟨Nat.le_refl _⟩, ⟨by exact HO_7.out⟩, ⟨by exact HI341.out⟩, ⟨by exact HB.out⟩⟩
         case round =>
          clear H'
          try clear c15
          try clear c15b0
          try clear c15b1
          obtain ⟨x7_3, x342000_3, x342001_3, HA, HK3, HO_7, HI341, HB⟩ := hrel
          cases gk with
          | zero => exact absurd HA.out (by simp [e_decodeTexts.l0])
          | succ k3 =>
           have H := HA.out
           clear HA
           simp only [e_decodeTexts.l0] at H
           have HC18 := Ak H
           clear H
           go_upto_region 6 with (fail)
           go_cut [31] (fun v31 wc => ∃ (kq : Nat) (x31_17 : Bool), v31 = .bool x31_17 ∧ Aside0 (e_decodeTexts.j3 kq l0 t342 t345 x7_3 x31_17 x342000_3 x342001_3 = some (r1, r2)) ∧ Aside0 (kq ≤ k3) ∧ Aside0 (Kd.R Kd.string 9 wc w.heap.size (fun _ => True) u7 x7_3) ∧ Aside0 (IsS71 w wc gb341 x342000_3 x342001_3) ∧ Aside0 (Below w.heap.size w wc))
           case first =>
            have H := HC18.out
            clear HC18
            by_cases c19 : (x7_3.length : Int) < t345
            ·rw [if_pos c19] at H
             have c19b0 : decide ((x7_3.length : Int) < t345) = true := decide_eq_true c19
             clear c19
             (skip)
             (try rw [c19b1])
             have H' := Ak H
             clear H
             obtain ⟨Ao20, co20, eo20⟩ := Kd.R_slice HO_7.out
             subst eo20
             obtain ⟨ASz21_0, cSz21_0, HGz21, hgz21, HSz21_0⟩ := HI341.out
             have hcz21_0 := cellS71_0 HGz21
             have hcz21_1 := cellS71_1 HGz21
             have hfz21_0 := blk_frozen HGz21 0
             have hfz21_1 := blk_frozen HGz21 1
             have HCSz21_0 := HSz21_0.1
             replace HSz21_0 := HSz21_0.2
             clear HGz21 hgz21
             go_wp2
             go_meet
             case rel => exact ⟨_, (!x342001_3), (by rfl), H', ⟨by have := HJ3.out; have := HJ10.out; have := HK3.out; omega⟩, ⟨by exact HO_7.out⟩, ⟨by exact HI341.out⟩, ⟨by exact HB.out⟩⟩
            ·rw [if_neg c19] at H
             have c19b0 : decide ((x7_3.length : Int) < t345) = false := decide_eq_false c19
             clear c19
             (skip)
             (try rw [c19b1])
             have H' := Ak H
             clear H
             obtain ⟨Ao22, co22, eo22⟩ := Kd.R_slice HO_7.out
             subst eo22
             go_wp2
             go_meet
             case rel => exact ⟨_, (false), (by rfl), H', ⟨by have := HJ3.out; have := HJ10.out; have := HK3.out; omega⟩, ⟨by exact HO_7.out⟩, ⟨by exact HI341.out⟩, ⟨by exact HB.out⟩⟩
           case rest =>
            clear HC18
            obtain ⟨kq, x31_17, rfl, HA, HJ17, HO_7, HI341, HB⟩ := hcut
            cases kq with
            | zero => exact absurd HA.out (by simp [e_decodeTexts.j3])
            | succ kj17 =>
             have H := HA.out
             clear HA
             simp only [e_decodeTexts.j3] at H
             by_cases c23 : x31_17 = true
             ·subst c23
              replace H : ((er_count.f kj17 x342000_3 x342001_3).bind fun bt353 => ((er_text.f bt353.2.1 bt353.2.2 bt353.1).bind fun bt356 => (if x7_3.length < 8796093022208 then (e_decodeTexts.l0 kj17 l0 t342 t345 (x7_3 ++ [bt356.1]) bt356.2.1 bt356.2.2) else (none)))) = some (r1, r2) := by rw [if_pos rfl] at H; exact H
              replace H := Option.bind_eq_some_iff.mp H
              obtain ⟨⟨t353, t354, t355⟩, A240, H⟩ := H
              replace H : ((er_text.f t354 t355 t353).bind fun bt356 => (if x7_3.length < 8796093022208 then (e_decodeTexts.l0 kj17 l0 t342 t345 (x7_3 ++ [bt356.1]) bt356.2.1 bt356.2.2) else (none))) = some (r1, r2) := H
              have A24 := Ak A240
              clear A240
              replace H := Option.bind_eq_some_iff.mp H
              obtain ⟨⟨t356, t357, t358⟩, A250, H⟩ := H
              replace H : (if x7_3.length < 8796093022208 then (e_decodeTexts.l0 kj17 l0 t342 t345 (x7_3 ++ [t356]) t357 t358) else (none)) = some (r1, r2) := H
              have A25 := Ak A250
              clear A250
              by_cases c26 : x7_3.length < 8796093022208
              ·rw [if_pos c26] at H
               have LMc26 := Ak c26
               clear c26
               obtain ⟨y359, hy359⟩ : ∃ y_ : List ByteArray, y_ = (x7_3 ++ [t356]) := ⟨_, rfl⟩
               replace H : (e_decodeTexts.l0 kj17 l0 t342 t345 y359 t357 t358) = some (r1, r2) := by (rw [hy359]; with_reducible exact H)
               have Ny359 := Ak hy359
               clear hy359
               have H' := Ak H
               clear H
               go_wp2_with (first | ((with_reducible refine gate_callee (f := 57) rfl ?_); refine goesL_ (some 35) rfl rfl Try.func57 (by kernel_rfl) rfl #[.pointer (some ⟨gb341, 0, none⟩)] rfl (by (try simp only [lm]); rfl) ?_; (with_reducible refine (er_count.calls kj17 gb341 x342000_3 x342001_3 t353 t354 t355 w _ ?side1 ?side2 A24.out).mono ?_); (case side1 => exact HI341.out); (case side2 => exact HB.out); rintro e w27 ⟨rfl, hi, hb, hk⟩; refine ⟨_, rfl, ?_⟩; have n0_ := Ak (Kd.R_mono (Kd.R_keep (IsS71.apart (show IsS71 w _ gb341 x342000_3 x342001_3 from by exact HI341.out) (by exact HO_7.out) (by decide)) hk (fun _ h => h.2)) (fun _ h => h.1)); have n1_ := Ak (hb); have n2_ := Ak (hi); clear HO_7 HB HI341; have HO_7 := n0_; have HB := n1_; have HI341 := n2_; clear n0_ n1_ n2_; (try clear hb); (try clear hk); (try clear hi)) | ((with_reducible refine gate_callee (f := 99) rfl ?_); refine goesL_ (some 36) rfl rfl Try.func99 (by kernel_rfl) rfl #[.pointer (some ⟨gb341, 0, none⟩), .int .i64 t353] rfl (by (try simp only [lm]); rfl) ?_; (with_reducible refine (er_text.calls gb341 t354 t355 t353 t356 t357 t358 w _ ?side1 ?side2 A25.out).mono ?_); (case side1 => exact HI341.out); (case side2 => exact HB.out); rintro e w28 ⟨rfl, hi, hb, hk⟩; refine ⟨_, rfl, ?_⟩; have n0_ := Ak (Kd.R_mono (Kd.R_keep (IsS71.apart (show IsS71 w _ gb341 t354 t355 from by exact HI341.out) (by exact HO_7.out) (by decide)) hk (fun _ h => h.2)) (fun _ h => h.1)); have n1_ := Ak (hb); have n2_ := Ak (hi); clear HO_7 HB HI341; have HO_7 := n0_; have HB := n1_; have HI341 := n2_; clear n0_ n1_ n2_; (try clear hb); (try clear hk); (try clear hi)) | ((with_reducible refine gate_builtin (b := .append) (xs := #[.tmp 32, .tmp 37]) rfl ?_); at_builtin; refine Kd.R_append Kd.string (w0 := w) w.heap.size rfl (.tmp 32) (.tmp 37) 52 9 (.string ⟨#[]⟩) 16 rfl Try.underlying52 info9 rfl (by decide) (by omega) u7 x7_3 t356 [.string t356] (fun _ => True) (fun _ => False) rfl rfl ?aP (fun _ hk => hk.elim) ?aF ?aO ?aB ?aS ?aL ?_; (case aP => exact rfl); (case aB => exact (by exact HB.out)); (case aF => exact (fun _ _ => trivial)); (case aO => exact (by exact HO_7.out)); (case aS => exact (below_size (by exact HB.out))); (case aL => have := LMc26.out; omega); intro v360 w29 ho hb hg hat; rw [← Ny359.out] at ho; have n0_ := Ak (IsS71.grown (by exact HI341.out) hg (IsS71.own_ne HI341.out HO_7.out (by decide))); have n1_ := Ak (hb); have n2_ := Ak (ho); clear HI341 HB HO_7; have HI341 := n0_; have HB := n1_; have HO361 := n2_; clear n0_ n1_ n2_ ho hb hg hat))
               go_roundg kj17
               case measure => have := HJ3.out; have := HJ10.out; have := HK3.out; have := HJ17.out; omega
               case rel => exact ⟨(y359), (t357), (t358), H', ⟨by have := HJ3.out; have := HJ10.out; have := HK3.out; have := HJ17.out; omega⟩, ⟨by exact HO361.out⟩, ⟨by exact HI341.out⟩, ⟨by exact HB.out⟩⟩
              ·rw [if_neg c26] at H
               exact absurd H (by simp)
             ·replace c23 := Bool.eq_false_iff.mpr c23
              subst c23
              replace H : (e_decodeTexts.j4 kj17 l0 t342 x7_3 x342000_3 x342001_3) = some (r1, r2) := by rw [if_neg (show ¬ (false = true) by decide)] at H; exact H
              have H' := Ak H
              clear H
              go_wp2
              go_meet
              case rel => exact ⟨_, (x7_3), (x342000_3), (x342001_3), H', ⟨by have := HJ3.out; have := HJ10.out; have := HK3.out; have := HJ17.out; omega⟩, ⟨by exact HO_7.out⟩, ⟨by exact HI341.out⟩, ⟨by exact HB.out⟩⟩
    case rest =>
     clear HC10
     obtain ⟨kq, x7_9, x342000_9, x342001_9, HA, HJ9, HO_7, HI341, HB⟩ := hcut
     cases kq with
     | zero => exact absurd HA.out (by simp [e_decodeTexts.j4])
     | succ kj9 =>
      have H := HA.out
      clear HA
      simp only [e_decodeTexts.j4] at H
      by_cases c30 : x342001_9 = true
      ·subst c30
       replace H : (some (([] : List ByteArray), false)) = some (r1, r2) := by rw [if_pos rfl] at H; exact H
       simp only [Option.some.injEq, Prod.mk.injEq] at H
       obtain ⟨rfl, rfl⟩ := H
       obtain ⟨ASz31_0, cSz31_0, HGz31, hgz31, HSz31_0⟩ := HI341.out
       have hcz31_0 := cellS71_0 HGz31
       have hcz31_1 := cellS71_1 HGz31
       have hfz31_0 := blk_frozen HGz31 0
       have hfz31_1 := blk_frozen HGz31 1
       have HCSz31_0 := HSz31_0.1
       replace HSz31_0 := HSz31_0.2
       clear HGz31 hgz31
       go_wp2
       go_ret2
       exact ⟨_, by rfl, by exact Kd.R_nil _ _ _ _ _, by exact HB.out⟩
      ·replace c30 := Bool.eq_false_iff.mpr c30
       subst c30
       replace H : ((e_checkTexts.f kj9 x7_9).bind fun t362 => (if t362 = 0 then ((e_encodeTexts.f kj9 t342 x7_9).bind fun t363 => ((bytes_Equal.f t363 l0).bind fun t366 => (if t366 = true then (some (x7_9, true)) else (some (([] : List ByteArray), false))))) else (some (([] : List ByteArray), false)))) = some (r1, r2) := by rw [if_neg (show ¬ (false = true) by decide)] at H; exact H
       replace H := Option.bind_eq_some_iff.mp H
       obtain ⟨t362, A320, H⟩ := H
       replace H : (if t362 = 0 then ((e_encodeTexts.f kj9 t342 x7_9).bind fun t363 => ((bytes_Equal.f t363 l0).bind fun t366 => (if t366 = true then (some (x7_9, true)) else (some (([] : List ByteArray), false))))) else (some (([] : List ByteArray), false))) = some (r1, r2) := H
       have A32 := Ak A320
       clear A320
       by_cases c33 : t362 = 0
       ·rw [if_pos c33] at H
        have c33b0 : (t362 == 0) = true := beq_iff_eq.mpr c33
        have c33b1 : (t362 != 0) = false := bne_eq_false_iff_eq.mpr c33
        clear c33
        replace H := Option.bind_eq_some_iff.mp H
        obtain ⟨t363, A340, H⟩ := H
        replace H : ((bytes_Equal.f t363 l0).bind fun t366 => (if t366 = true then (some (x7_9, true)) else (some (([] : List ByteArray), false)))) = some (r1, r2) := H
        have A34 := Ak A340
        clear A340
        replace H := Option.bind_eq_some_iff.mp H
        obtain ⟨t366, A350, H⟩ := H
        replace H : (if t366 = true then (some (x7_9, true)) else (some (([] : List ByteArray), false))) = some (r1, r2) := H
        have A35 := Ak A350
        clear A350
        by_cases c36 : t366 = true
        ·subst c36
         replace H : (some (x7_9, true)) = some (r1, r2) := by rw [if_pos rfl] at H; exact H
         simp only [Option.some.injEq, Prod.mk.injEq] at H
         obtain ⟨rfl, rfl⟩ := H
         obtain ⟨ASz37_0, cSz37_0, HGz37, hgz37, HSz37_0⟩ := HI341.out
         have hcz37_0 := cellS71_0 HGz37
         have hcz37_1 := cellS71_1 HGz37
         have hfz37_0 := blk_frozen HGz37 0
         have hfz37_1 := blk_frozen HGz37 1
         have HCSz37_0 := HSz37_0.1
         replace HSz37_0 := HSz37_0.2
         clear HGz37 hgz37
         obtain ⟨Ao38, co38, eo38⟩ := Kd.R_slice HO_7.out
         subst eo38
         go_wp2_with (first | (go_at_call 68; (with_reducible refine (e_checkTexts.calls kj9 _ _ x7_9 t362 _ ?side1 ?side2 A32.out).mono ?_); (case side1 => repeat (exact (Kd.R_reads' HO_7.out).2.2)); (case side2 => exact (Kd.R_reads' HO_7.out).2.1); rintro e w39 ⟨rfl, hb⟩; have n0_ := Ak (Kd.R_below (by exact HO_7.out) hb); have n1_ := Ak (IsS71.below (by exact HI341.out) hb); have n2_ := Ak (below_step (by exact HB.out) hb); clear HO_7 HI341 HB; have HO_7 := n0_; have HI341 := n1_; have HB := n2_; clear n0_ n1_ n2_; (try clear hb); (try clear hi)) | (go_at_call 69; (with_reducible refine (e_encodeTexts.calls kj9 t342 _ _ x7_9 t363 _ ?side1 ?side2 A34.out).mono ?_); (case side1 => repeat (exact (Kd.R_reads' HO_7.out).2.2)); (case side2 => exact (Kd.R_reads' HO_7.out).2.1); rintro e w40 ⟨v364, rfl, ho0, hb⟩; have n0_ := Ak (Kd.R_below (by exact HO_7.out) hb); have n1_ := Ak (Kd.R_lower ho0 (below_size (by exact HB.out))); have n2_ := Ak (IsS71.below (by exact HI341.out) hb); have n3_ := Ak (below_step (by exact HB.out) hb); clear HO_7 HI341 HB; have HO_7 := n0_; have HO365 := n1_; have HI341 := n2_; have HB := n3_; clear n0_ n1_ n2_ n3_; (try clear hb); (try clear ho0); obtain ⟨Ao41, co41, eo41⟩ := Kd.R_slice HO365.out; subst eo41) | (go_at_call 58; (with_reducible refine (bytes_Equal.calls _ _ t363 _ _ l0 true _ ?side1 ?side2 ?side3 ?side4 A35.out).mono ?_); (case side1 => repeat (exact (Kd.R_reads' HO365.out).2.2)); (case side2 => exact (Kd.R_reads' HO365.out).2.1); (case side3 => repeat (exact (Kd.C_below HR0.out HB.out))); (case side4 => exact HC0.out); rintro e w' ⟨rfl, ⟨nd, rfl⟩⟩))
         go_ret2
         exact ⟨_, by rfl, by (with_reducible repeat (apply Kd.R_drewN)); exact HO_7.out, by repeat ((with_reducible first | exact HB.out | apply pw_below_drewN ))⟩
        ·replace c36 := Bool.eq_false_iff.mpr c36
         subst c36
         replace H : (some (([] : List ByteArray), false)) = some (r1, r2) := by rw [if_neg (show ¬ (false = true) by decide)] at H; exact H
         simp only [Option.some.injEq, Prod.mk.injEq] at H
         obtain ⟨rfl, rfl⟩ := H
         obtain ⟨ASz42_0, cSz42_0, HGz42, hgz42, HSz42_0⟩ := HI341.out
         have hcz42_0 := cellS71_0 HGz42
         have hcz42_1 := cellS71_1 HGz42
         have hfz42_0 := blk_frozen HGz42 0
         have hfz42_1 := blk_frozen HGz42 1
         have HCSz42_0 := HSz42_0.1
         replace HSz42_0 := HSz42_0.2
         clear HGz42 hgz42
         obtain ⟨Ao43, co43, eo43⟩ := Kd.R_slice HO_7.out
         subst eo43
         go_wp2_with (first | (go_at_call 68; (with_reducible refine (e_checkTexts.calls kj9 _ _ x7_9 t362 _ ?side1 ?side2 A32.out).mono ?_); (case side1 => repeat (exact (Kd.R_reads' HO_7.out).2.2)); (case side2 => exact (Kd.R_reads' HO_7.out).2.1); rintro e w44 ⟨rfl, hb⟩; have n0_ := Ak (Kd.R_below (by exact HO_7.out) hb); have n1_ := Ak (IsS71.below (by exact HI341.out) hb); have n2_ := Ak (below_step (by exact HB.out) hb); clear HO_7 HI341 HB; have HO_7 := n0_; have HI341 := n1_; have HB := n2_; clear n0_ n1_ n2_; (try clear hb); (try clear hi)) | (go_at_call 69; (with_reducible refine (e_encodeTexts.calls kj9 t342 _ _ x7_9 t363 _ ?side1 ?side2 A34.out).mono ?_); (case side1 => repeat (exact (Kd.R_reads' HO_7.out).2.2)); (case side2 => exact (Kd.R_reads' HO_7.out).2.1); rintro e w45 ⟨v364, rfl, ho0, hb⟩; have n0_ := Ak (Kd.R_below (by exact HO_7.out) hb); have n1_ := Ak (Kd.R_lower ho0 (below_size (by exact HB.out))); have n2_ := Ak (IsS71.below (by exact HI341.out) hb); have n3_ := Ak (below_step (by exact HB.out) hb); clear HO_7 HI341 HB; have HO_7 := n0_; have HO365 := n1_; have HI341 := n2_; have HB := n3_; clear n0_ n1_ n2_ n3_; (try clear hb); (try clear ho0); obtain ⟨Ao46, co46, eo46⟩ := Kd.R_slice HO365.out; subst eo46) | (go_at_call 58; (with_reducible refine (bytes_Equal.calls _ _ t363 _ _ l0 false _ ?side1 ?side2 ?side3 ?side4 A35.out).mono ?_); (case side1 => repeat (exact (Kd.R_reads' HO365.out).2.2)); (case side2 => exact (Kd.R_reads' HO365.out).2.1); (case side3 => repeat (exact (Kd.C_below HR0.out HB.out))); (case side4 => exact HC0.out); rintro e w' ⟨rfl, ⟨nd, rfl⟩⟩))
         go_ret2
         exact ⟨_, by rfl, by exact Kd.R_nil _ _ _ _ _, by repeat ((with_reducible first | exact HB.out | apply pw_below_drewN ))⟩
       ·rw [if_neg c33] at H
        have c33b0 : (t362 == 0) = false := beq_eq_false_iff_ne.mpr c33
        have c33b1 : (t362 != 0) = true := bne_iff_ne.mpr c33
        simp only [Option.some.injEq, Prod.mk.injEq] at H
        obtain ⟨rfl, rfl⟩ := H
        obtain ⟨ASz47_0, cSz47_0, HGz47, hgz47, HSz47_0⟩ := HI341.out
        have hcz47_0 := cellS71_0 HGz47
        have hcz47_1 := cellS71_1 HGz47
        have hfz47_0 := blk_frozen HGz47 0
        have hfz47_1 := blk_frozen HGz47 1
        have HCSz47_0 := HSz47_0.1
        replace HSz47_0 := HSz47_0.2
        clear HGz47 hgz47
        obtain ⟨Ao48, co48, eo48⟩ := Kd.R_slice HO_7.out
        subst eo48
        go_wp2_with (first | (go_at_call 68; (with_reducible refine (e_checkTexts.calls kj9 _ _ x7_9 t362 _ ?side1 ?side2 A32.out).mono ?_); (case side1 => repeat (exact (Kd.R_reads' HO_7.out).2.2)); (case side2 => exact (Kd.R_reads' HO_7.out).2.1); rintro e w49 ⟨rfl, hb⟩; have n0_ := Ak (Kd.R_below (by exact HO_7.out) hb); have n1_ := Ak (IsS71.below (by exact HI341.out) hb); have n2_ := Ak (below_step (by exact HB.out) hb); clear HO_7 HI341 HB; have HO_7 := n0_; have HI341 := n1_; have HB := n2_; clear n0_ n1_ n2_; (try clear hb); (try clear hi)))
        go_ret2
        exact ⟨_, by rfl, by exact Kd.R_nil _ _ _ _ _, by exact HB.out⟩
def e_DecodeTexts.f (k : Nat) (l0 : List Int) : Option (List ByteArray × Int) := if (l0.length : Int) > 500000 then (some (([] : List ByteArray), 2)) else ((e_decodeTexts.f k l0).bind fun bt367 => (if bt367.2 = true then (some (bt367.1, 0)) else (some (([] : List ByteArray), 3))))
theorem e_DecodeTexts.mono : ∀ a0 k, LeO (e_DecodeTexts.f k a0) (e_DecodeTexts.f (k + 1) a0) := by
 intro a0 k
 unfold e_DecodeTexts.f
 repeat' first
  | (with_reducible exact e_decodeTexts.mono _ _)
  | (with_reducible exact LeO.refl _)
  | (with_reducible refine LeO.ite ?_ ?_)
  | (with_reducible refine LeO.bind ?_ (fun _ => ?_))
set_option maxHeartbeats 8000000 in
set_option maxRecDepth 100000 in
theorem e_DecodeTexts.calls (k : Nat) (A0 : Option Addr) (c0 : Nat) (l0 : List Int) (r1 : List ByteArray) (r2 : Int) (w : World) (hr0 : Kd.C (Kd.int .u8) w A0 l0.length l0) (hc0 : l0.length ≤ c0) (h : e_DecodeTexts.f k l0 = some (r1, r2)) :
 Calls Try.prog 36 #[.slice A0 l0.length c0] w fun e w' => ∃ v0_ : Value, e = .returned (.tuple #[v0_, .int .i64 r2]) ∧ Kd.R Kd.string 9 w' w.heap.size (fun _ => True) v0_ r1 ∧ Below w.heap.size w w' := by
 have HR0 := Ak hr0
 have HC0 := Ak hc0
 clear hr0 hc0
 have HB := Ak (Below.refl w.heap.size w)
 have H : (if (l0.length : Int) > 500000 then (some (([] : List ByteArray), 2)) else ((e_decodeTexts.f k l0).bind fun bt367 => (if bt367.2 = true then (some (bt367.1, 0)) else (some (([] : List ByteArray), 3))))) = some (r1, r2) := h
 clear h
 by_cases c2 : (l0.length : Int) > 500000
 ·rw [if_pos c2] at H
  have c2b0 : decide (500000 < (l0.length : Int)) = true := decide_eq_true c2
  have c2b1 : decide (500000 < l0.length) = true := decide_eq_true (by omega)
  clear c2
  simp only [Option.some.injEq, Prod.mk.injEq] at H
  obtain ⟨rfl, rfl⟩ := H
  go_enter Try.func36, Try.ntmps36
  go_wp2
  go_ret2
  exact ⟨_, by rfl, by exact Kd.R_nil _ _ _ _ _, by exact HB.out⟩
 ·rw [if_neg c2] at H
  have c2b0 : decide (500000 < (l0.length : Int)) = false := decide_eq_false c2
  have c2b1 : decide (500000 < l0.length) = false := decide_eq_false (by omega)
  clear c2
  replace H := Option.bind_eq_some_iff.mp H
  obtain ⟨⟨t367, t368⟩, A30, H⟩ := H
  replace H : (if t368 = true then (some (t367, 0)) else (some (([] : List ByteArray), 3))) = some (r1, r2) := H
  have A3 := Ak A30
  clear A30
  by_cases c4 : t368 = true
  ·subst c4
   replace H : (some (t367, 0)) = some (r1, r2) := by rw [if_pos rfl] at H; exact H
   simp only [Option.some.injEq, Prod.mk.injEq] at H
   obtain ⟨rfl, rfl⟩ := H
   go_enter Try.func36, Try.ntmps36
   go_wp2_with (first | ((with_reducible refine gate_callee (f := 70) rfl ?_); refine goesL_ (some 11) rfl rfl Try.func70 (by kernel_rfl) rfl #[.slice A0 l0.length c0] rfl (by (try simp only [lm]); rfl) ?_; (with_reducible refine (e_decodeTexts.calls k _ _ l0 t367 true _ ?side1 ?side2 A3.out).mono ?_); (case side1 => repeat (exact HR0.out)); (case side2 => exact HC0.out); rintro e w5 ⟨v369, rfl, ho0, hb⟩; refine ⟨_, rfl, ?_⟩; have n0_ := Ak (Kd.R_lower ho0 (below_size (by exact HB.out))); have n1_ := Ak (below_step (by exact HB.out) hb); clear HB; have HO370 := n0_; have HB := n1_; clear n0_ n1_; (try clear hb); (try clear ho0)))
   go_ret2
   exact ⟨_, by rfl, by exact HO370.out, by exact HB.out⟩
  ·replace c4 := Bool.eq_false_iff.mpr c4
   subst c4
   replace H : (some (([] : List ByteArray), 3)) = some (r1, r2) := by rw [if_neg (show ¬ (false = true) by decide)] at H; exact H
   simp only [Option.some.injEq, Prod.mk.injEq] at H
   obtain ⟨rfl, rfl⟩ := H
   go_enter Try.func36, Try.ntmps36
   go_wp2_with (first | ((with_reducible refine gate_callee (f := 70) rfl ?_); refine goesL_ (some 11) rfl rfl Try.func70 (by kernel_rfl) rfl #[.slice A0 l0.length c0] rfl (by (try simp only [lm]); rfl) ?_; (with_reducible refine (e_decodeTexts.calls k _ _ l0 t367 false _ ?side1 ?side2 A3.out).mono ?_); (case side1 => repeat (exact HR0.out)); (case side2 => exact HC0.out); rintro e w6 ⟨v369, rfl, ho0, hb⟩; refine ⟨_, rfl, ?_⟩; have n0_ := Ak (Kd.R_lower ho0 (below_size (by exact HB.out))); have n1_ := Ak (below_step (by exact HB.out) hb); clear HB; have HO370 := n0_; have HB := n1_; clear n0_ n1_; (try clear hb); (try clear ho0)))
   go_ret2
   exact ⟨_, by rfl, by exact Kd.R_nil _ _ _ _ _, by exact HB.out⟩
def s_Equalt.l0 : Nat → List ByteArray → List ByteArray → Int → Int → Option (Bool)
 | 0, _, _, _, _ => none
 | k + 1, x0, x1, x12, x13 => if x13 < x12 then (if 0 ≤ x13 then (if x13 < (x0.length : Int) then (if x13 < (x1.length : Int) then (if (rdOf ByteArray.empty x0 x13).toList = (rdOf ByteArray.empty x1 x13).toList then (s_Equalt.l0 k x0 x1 x12 (wrap64 (x13 + 1))) else (some false)) else (none)) else (none)) else (none)) else (some true)
def s_Equalt.f (k : Nat) (l0 : List ByteArray) (l1 : List ByteArray) : Option (Bool) := if (l0.length : Int) = (l1.length : Int) then (s_Equalt.l0 k l0 l1 (l0.length : Int) 0) else (some false)
theorem s_Equalt.mono_l : ∀ k, (∀ y0 y1 y2 y3, LeO (s_Equalt.l0 k y0 y1 y2 y3) (s_Equalt.l0 (k + 1) y0 y1 y2 y3))
 | 0 => fun _ _ _ _ r h => by simp [s_Equalt.l0] at h
 | k + 1 => by
  have ih0 := s_Equalt.mono_l k
  ·intro y0 y1 y2 y3
   unfold s_Equalt.l0
   repeat' first
   | (with_reducible exact ih0 _ _ _ _)
   | (with_reducible exact LeO.refl _)
   | (with_reducible refine LeO.ite ?_ ?_)
theorem s_Equalt.mono : ∀ a0 a1 k, LeO (s_Equalt.f k a0 a1) (s_Equalt.f (k + 1) a0 a1) := by
 intro a0 a1 k
 have ih0 := s_Equalt.mono_l k
 unfold s_Equalt.f
 repeat' first
  | (with_reducible exact ih0 _ _ _ _)
  | (with_reducible exact LeO.refl _)
  | (with_reducible refine LeO.ite ?_ ?_)
set_option maxHeartbeats 8000000 in
set_option maxRecDepth 100000 in
theorem s_Equalt.calls (k : Nat) (A0 : Option Addr) (c0 : Nat) (l0 : List ByteArray) (A1 : Option Addr) (c1 : Nat) (l1 : List ByteArray) (r : Bool) (w : World) (hr0 : Kd.C Kd.string w A0 l0.length l0) (hc0 : l0.length ≤ c0) (hr1 : Kd.C Kd.string w A1 l1.length l1) (hc1 : l1.length ≤ c1) (h : s_Equalt.f k l0 l1 = some r) :
 Calls Try.prog 37 #[.slice A0 l0.length c0, .slice A1 l1.length c1] w fun e w' => e = .returned (.bool r) ∧ Drawn0 w w' := by
 have HR0 := Ak hr0
 have HC0 := Ak hc0
 clear hr0 hc0
 have HR1 := Ak hr1
 have HC1 := Ak hc1
 clear hr1 hc1
 have H : (if (l0.length : Int) = (l1.length : Int) then (s_Equalt.l0 k l0 l1 (l0.length : Int) 0) else (some false)) = some r := h
 clear h
 by_cases c3 : (l0.length : Int) = (l1.length : Int)
 ·rw [if_pos c3] at H
  have c3b0 : ((l0.length : Int) == (l1.length : Int)) = true := beq_iff_eq.mpr c3
  have c3b1 : ((l0.length : Int) != (l1.length : Int)) = false := bne_eq_false_iff_eq.mpr c3
  have c3b2 : (l0.length == l1.length) = true := by (simp at c3 ⊢; omega)
  clear c3
  have H' := Ak H
  clear H
  go_enter Try.func37, Try.ntmps37
  go_wp2
  repeat (go_quiet (fail); try go_wp2)
  go_loopg [13] k (fun kq v13 w' => ∃ (x13_1 : Int), v13 = .int .i64 x13_1 ∧ Aside0 (s_Equalt.l0 kq l0 l1 (l0.length : Int) x13_1 = some r) ∧ Aside0 (kq ≤ k) ∧ Drawn0 w w')
  case atStart => exact ⟨(0), (by rfl), H', ⟨Nat.le_refl _⟩, by repeat (exact Drawn0.refl _)⟩
  case round =>
   clear H'
   try clear c3b0
   try clear c3b1
   try clear c3b2
   obtain ⟨x13_1, rfl, HA, HK1, ⟨m1, rfl⟩⟩ := hrel
   cases gk with
   | zero => exact absurd HA.out (by simp [s_Equalt.l0])
   | succ k1 =>
    have H := HA.out
    clear HA
    simp only [s_Equalt.l0] at H
    by_cases c4 : x13_1 < (l0.length : Int)
    ·rw [if_pos c4] at H
     have c4b0 : decide (x13_1 < (l0.length : Int)) = true := decide_eq_true c4
     clear c4
     by_cases c5 : 0 ≤ x13_1
     ·rw [if_pos c5] at H
      have c5b0 : decide (0 ≤ x13_1) = true := decide_eq_true c5
      clear c5
      by_cases c6 : x13_1 < (l0.length : Int)
      ·rw [if_pos c6] at H
       have c6b0 : decide (x13_1 < (l0.length : Int)) = true := decide_eq_true c6
       clear c6
       by_cases c7 : x13_1 < (l1.length : Int)
       ·rw [if_pos c7] at H
        have c7b0 : decide (x13_1 < (l1.length : Int)) = true := decide_eq_true c7
        clear c7
        by_cases c8 : (rdOf ByteArray.empty l0 x13_1).toList = (rdOf ByteArray.empty l1 x13_1).toList
        ·rw [if_pos c8] at H
         have c8b0 : ((rdOf ByteArray.empty l0 x13_1).toList == (rdOf ByteArray.empty l1 x13_1).toList) = true := beq_iff_eq.mpr c8
         have c8b1 : ((rdOf ByteArray.empty l0 x13_1).toList != (rdOf ByteArray.empty l1 x13_1).toList) = false := bne_eq_false_iff_eq.mpr c8
         clear c8
         have H' := Ak H
         clear H
         have p371 : 0 ≤ (x13_1 : Int) := of_decide_eq_true (by (with_reducible assumption))
         have q371 : x13_1 < (l0.length : Int) := of_decide_eq_true (by (with_reducible assumption))
         obtain ⟨ad371, e371, hx371_0⟩ := Kd.at_string HR0.out x13_1 p371 q371
         cases e371
         replace p371 := eq_true p371
         replace q371 := eq_true q371
         have p372 : 0 ≤ (x13_1 : Int) := of_decide_eq_true (by (with_reducible assumption))
         have q372 : x13_1 < (l1.length : Int) := of_decide_eq_true (by (with_reducible assumption))
         obtain ⟨ad372, e372, hx372_0⟩ := Kd.at_string HR1.out x13_1 p372 q372
         cases e372
         replace p372 := eq_true p372
         replace q372 := eq_true q372
         go_wp2
         repeat (go_quiet (fail); try go_wp2)
         go_roundg k1
         case measure => have := HK1.out; omega
         case rel => exact ⟨(wrap64 (x13_1 + 1)), (by rfl), H', ⟨by have := HK1.out; omega⟩, by repeat (first | exact Drawn0.refl _ | apply Drawn0.step)⟩
        ·rw [if_neg c8] at H
         have c8b0 : ((rdOf ByteArray.empty l0 x13_1).toList == (rdOf ByteArray.empty l1 x13_1).toList) = false := beq_eq_false_iff_ne.mpr c8
         have c8b1 : ((rdOf ByteArray.empty l0 x13_1).toList != (rdOf ByteArray.empty l1 x13_1).toList) = true := bne_iff_ne.mpr c8
         obtain rfl := Option.some.inj H
         have p371 : 0 ≤ (x13_1 : Int) := of_decide_eq_true (by (with_reducible assumption))
         have q371 : x13_1 < (l0.length : Int) := of_decide_eq_true (by (with_reducible assumption))
         obtain ⟨ad371, e371, hx371_0⟩ := Kd.at_string HR0.out x13_1 p371 q371
         cases e371
         replace p371 := eq_true p371
         replace q371 := eq_true q371
         have p372 : 0 ≤ (x13_1 : Int) := of_decide_eq_true (by (with_reducible assumption))
         have q372 : x13_1 < (l1.length : Int) := of_decide_eq_true (by (with_reducible assumption))
         obtain ⟨ad372, e372, hx372_0⟩ := Kd.at_string HR1.out x13_1 p372 q372
         cases e372
         replace p372 := eq_true p372
         replace q372 := eq_true q372
         go_wp2
         repeat (go_quiet (fail); try go_wp2)
         go_ret
         exact ⟨by rfl, by repeat (first | exact Drawn0.refl _ | apply Drawn0.step)⟩
       ·rw [if_neg c7] at H
        exact absurd H (by simp)
      ·rw [if_neg c6] at H
       exact absurd H (by simp)
     ·rw [if_neg c5] at H
      exact absurd H (by simp)
    ·rw [if_neg c4] at H
     have c4b0 : decide (x13_1 < (l0.length : Int)) = false := decide_eq_false c4
     clear c4
     obtain rfl := Option.some.inj H
     go_wp2
     repeat (go_quiet (fail); try go_wp2)
     go_ret
     exact ⟨by rfl, by repeat (first | exact Drawn0.refl _ | apply Drawn0.step)⟩
 ·rw [if_neg c3] at H
  have c3b0 : ((l0.length : Int) == (l1.length : Int)) = false := beq_eq_false_iff_ne.mpr c3
  have c3b1 : ((l0.length : Int) != (l1.length : Int)) = true := bne_iff_ne.mpr c3
  have c3b2 : (l0.length == l1.length) = false := by (simp at c3 ⊢; omega)
  obtain rfl := Option.some.inj H
  go_enter Try.func37, Try.ntmps37
  go_wp2
  repeat (go_quiet (fail); try go_wp2)
  go_ret
  exact ⟨by rfl, by repeat (exact Drawn0.refl _)⟩
def e_WhereText.l0 : Nat → ByteArray → ByteArray → List ByteArray → List Int → Int → Int → Option (List Int × Int)
 | 0, _, _, _, _, _, _ => none
 | k + 1, x1, x2, x8, x10, x25, x26 => if x26 < x25 then (if 0 ≤ x26 then (if x26 < (x8.length : Int) then (if ((Op.bytesLess ((rdOf ByteArray.empty x8 x26).toList) x1.toList) = true) then (e_WhereText.l0 k x1 x2 x8 x10 x25 (wrap64 (x26 + 1))) else (if ((Op.bytesLess x2.toList ((rdOf ByteArray.empty x8 x26).toList)) = true) then (e_WhereText.l0 k x1 x2 x8 x10 x25 (wrap64 (x26 + 1))) else (if x10.length < 17592186044416 then (e_WhereText.l0 k x1 x2 x8 (x10 ++ [x26]) x25 (wrap64 (x26 + 1))) else (none)))) else (none)) else (none)) else (some (x10, 0))
def e_WhereText.f (k : Nat) (l0 : List Int) (a1 : ByteArray) (a2 : ByteArray) : Option (List Int × Int) := (e_DecodeTexts.f k l0).bind fun bt373 => (if bt373.2 = 0 then (if (Op.bytesLess a2.toList a1.toList) = true then (some (([] : List Int), 8)) else (e_WhereText.l0 k a1 a2 bt373.1 ([] : List Int) (bt373.1.length : Int) 0)) else (some (([] : List Int), bt373.2)))
theorem e_WhereText.mono_l : ∀ k, (∀ y0 y1 y2 y3 y4 y5, LeO (e_WhereText.l0 k y0 y1 y2 y3 y4 y5) (e_WhereText.l0 (k + 1) y0 y1 y2 y3 y4 y5))
 | 0 => fun _ _ _ _ _ _ r h => by simp [e_WhereText.l0] at h
 | k + 1 => by
  have ih0 := e_WhereText.mono_l k
  ·intro y0 y1 y2 y3 y4 y5
   unfold e_WhereText.l0
   repeat' first
   | (with_reducible exact ih0 _ _ _ _ _ _)
   | (with_reducible exact LeO.refl _)
   | (with_reducible refine LeO.ite ?_ ?_)
theorem e_WhereText.mono : ∀ a0 a1 a2 k, LeO (e_WhereText.f k a0 a1 a2) (e_WhereText.f (k + 1) a0 a1 a2) := by
 intro a0 a1 a2 k
 have ih0 := e_WhereText.mono_l k
 unfold e_WhereText.f
 repeat' first
  | (with_reducible exact ih0 _ _ _ _ _ _)
  | (with_reducible exact e_DecodeTexts.mono _ _)
  | (with_reducible exact LeO.refl _)
  | (with_reducible refine LeO.ite ?_ ?_)
  | (with_reducible refine LeO.bind ?_ (fun _ => ?_))
set_option maxHeartbeats 8000000 in
set_option maxRecDepth 100000 in
theorem e_WhereText.calls (k : Nat) (A0 : Option Addr) (c0 : Nat) (l0 : List Int) (a1 : ByteArray) (a2 : ByteArray) (r1 : List Int) (r2 : Int) (w : World) (hr0 : Kd.C (Kd.int .u8) w A0 l0.length l0) (hc0 : l0.length ≤ c0) (h : e_WhereText.f k l0 a1 a2 = some (r1, r2)) :
 Calls Try.prog 38 #[.slice A0 l0.length c0, .string a1, .string a2] w fun e w' => ∃ v0_ : Value, e = .returned (.tuple #[v0_, .int .i64 r2]) ∧ Kd.R (Kd.int .i64) 3 w' w.heap.size (fun _ => True) v0_ r1 ∧ Below w.heap.size w w' := by
 have HR0 := Ak hr0
 have HC0 := Ak hc0
 clear hr0 hc0
 have HB := Ak (Below.refl w.heap.size w)
 have H : ((e_DecodeTexts.f k l0).bind fun bt373 => (if bt373.2 = 0 then (if (Op.bytesLess a2.toList a1.toList) = true then (some (([] : List Int), 8)) else (e_WhereText.l0 k a1 a2 bt373.1 ([] : List Int) (bt373.1.length : Int) 0)) else (some (([] : List Int), bt373.2)))) = some (r1, r2) := h
 clear h
 replace H := Option.bind_eq_some_iff.mp H
 obtain ⟨⟨t373, t374⟩, A40, H⟩ := H
 replace H : (if t374 = 0 then (if (Op.bytesLess a2.toList a1.toList) = true then (some (([] : List Int), 8)) else (e_WhereText.l0 k a1 a2 t373 ([] : List Int) (t373.length : Int) 0)) else (some (([] : List Int), t374))) = some (r1, r2) := H
 have A4 := Ak A40
 clear A40
 by_cases c5 : t374 = 0
 ·rw [if_pos c5] at H
  have c5b0 : (t374 == 0) = true := beq_iff_eq.mpr c5
  have c5b1 : (t374 != 0) = false := bne_eq_false_iff_eq.mpr c5
  clear c5
  by_cases c6 : (Op.bytesLess a2.toList a1.toList) = true
  ·rw [if_pos c6] at H
   have c6b0 : (Op.bytesLess a2.toList a1.toList) = true := c6
   clear c6
   simp only [Option.some.injEq, Prod.mk.injEq] at H
   obtain ⟨rfl, rfl⟩ := H
   go_enter Try.func38, Try.ntmps38
   go_wp2_with (first | ((with_reducible refine gate_callee (f := 36) rfl ?_); refine goesL_ (some 15) rfl rfl Try.func36 (by kernel_rfl) rfl #[.slice A0 l0.length c0] rfl (by (try simp only [lm]); rfl) ?_; (with_reducible refine (e_DecodeTexts.calls k _ _ l0 t373 t374 _ ?side1 ?side2 A4.out).mono ?_); (case side1 => repeat (exact HR0.out)); (case side2 => exact HC0.out); rintro e w7 ⟨v375, rfl, ho0, hb⟩; refine ⟨_, rfl, ?_⟩; have n0_ := Ak (Kd.R_lower ho0 (below_size (by exact HB.out))); have n1_ := Ak (below_step (by exact HB.out) hb); clear HB; have HO376 := n0_; have HB := n1_; clear n0_ n1_; (try clear hb); (try clear ho0)))
   go_ret2
   exact ⟨_, by rfl, by exact Kd.R_nil _ _ _ _ _, by exact HB.out⟩
  ·rw [if_neg c6] at H
   have c6b0 : (Op.bytesLess a2.toList a1.toList) = false := by simpa using c6
   clear c6
   have H' := Ak H
   clear H
   go_enter Try.func38, Try.ntmps38
   go_wp2_with (first | ((with_reducible refine gate_callee (f := 36) rfl ?_); refine goesL_ (some 15) rfl rfl Try.func36 (by kernel_rfl) rfl #[.slice A0 l0.length c0] rfl (by (try simp only [lm]); rfl) ?_; (with_reducible refine (e_DecodeTexts.calls k _ _ l0 t373 t374 _ ?side1 ?side2 A4.out).mono ?_); (case side1 => repeat (exact HR0.out)); (case side2 => exact HC0.out); rintro e w8 ⟨v375, rfl, ho0, hb⟩; refine ⟨_, rfl, ?_⟩; have n0_ := Ak (Kd.R_lower ho0 (below_size (by exact HB.out))); have n1_ := Ak (below_step (by exact HB.out) hb); clear HB; have HO376 := n0_; have HB := n1_; clear n0_ n1_; (try clear hb); (try clear ho0); obtain ⟨Ao9, co9, eo9⟩ := Kd.R_slice HO376.out; subst eo9))
   go_loopg [10, 26] k (fun kq v10 v26 w' => ∃ (x10_1 : List Int) (x26_1 : Int), v26 = .int .i64 x26_1 ∧ Aside0 (e_WhereText.l0 kq a1 a2 t373 x10_1 (t373.length : Int) x26_1 = some (r1, r2)) ∧ Aside0 (kq ≤ k) ∧ Aside0 (Kd.R Kd.string 9 w' w.heap.size (fun _ => True) (.slice Ao9 t373.length co9) t373) ∧ Aside0 (Kd.R (Kd.int .i64) 3 w' w.heap.size (fun _ => True) v10 x10_1) ∧ Aside0 (Below w.heap.size w w'))
   case atStart => exact ⟨(([] : List Int)), (0), (by rfl), H', ⟨Nat.le_refl _⟩, ⟨by exact HO376.out⟩, ⟨by exact Kd.R_nil _ _ _ _ _⟩, ⟨by exact HB.out⟩⟩
   case round =>
    clear H'
    try clear c5b0
    try clear c5b1
    try clear c6b0
    obtain ⟨x10_1, x26_1, rfl, HA, HK1, HO_8, HO_10, HB⟩ := hrel
    cases gk with
    | zero => exact absurd HA.out (by simp [e_WhereText.l0])
    | succ k1 =>
     have H := HA.out
     clear HA
     simp only [e_WhereText.l0] at H
     by_cases c10 : x26_1 < (t373.length : Int)
     ·rw [if_pos c10] at H
      have c10b0 : decide (x26_1 < (t373.length : Int)) = true := decide_eq_true c10
      clear c10
      by_cases c11 : 0 ≤ x26_1
      ·rw [if_pos c11] at H
       have c11b0 : decide (0 ≤ x26_1) = true := decide_eq_true c11
       clear c11
       by_cases c12 : x26_1 < (t373.length : Int)
       ·rw [if_pos c12] at H
        have c12b0 : decide (x26_1 < (t373.length : Int)) = true := decide_eq_true c12
        clear c12
        by_cases c13 : ((Op.bytesLess ((rdOf ByteArray.empty t373 x26_1).toList) a1.toList) = true)
        ·rw [if_pos c13] at H
         have c13b0 : (Op.bytesLess ((rdOf ByteArray.empty t373 x26_1).toList) a1.toList) = true := c13
         clear c13
         have H' := Ak H
         clear H
         have p377 : 0 ≤ (x26_1 : Int) := of_decide_eq_true (by (with_reducible assumption))
         have q377 : x26_1 < (t373.length : Int) := of_decide_eq_true (by (with_reducible assumption))
         obtain ⟨ad377, e377, hx377_0⟩ := Kd.at_string (Kd.R_reads' HO_8.out).2.2 x26_1 p377 q377
         cases e377
         replace p377 := eq_true p377
         replace q377 := eq_true q377
         go_wp2
         go_roundg k1
         case measure => have := HK1.out; omega
         case rel => exact ⟨(x10_1), (wrap64 (x26_1 + 1)), (by rfl), H', ⟨by have := HK1.out; omega⟩, ⟨by exact HO_8.out⟩, ⟨by exact HO_10.out⟩, ⟨by exact HB.out⟩⟩
        ·rw [if_neg c13] at H
         have c13b0 : (Op.bytesLess ((rdOf ByteArray.empty t373 x26_1).toList) a1.toList) = false := by simpa using c13
         clear c13
         by_cases c14 : ((Op.bytesLess a2.toList ((rdOf ByteArray.empty t373 x26_1).toList)) = true)
         ·rw [if_pos c14] at H
          have c14b0 : (Op.bytesLess a2.toList ((rdOf ByteArray.empty t373 x26_1).toList)) = true := c14
          clear c14
          have H' := Ak H
          clear H
          have p377 : 0 ≤ (x26_1 : Int) := of_decide_eq_true (by (with_reducible assumption))
          have q377 : x26_1 < (t373.length : Int) := of_decide_eq_true (by (with_reducible assumption))
          obtain ⟨ad377, e377, hx377_0⟩ := Kd.at_string (Kd.R_reads' HO_8.out).2.2 x26_1 p377 q377
          cases e377
          replace p377 := eq_true p377
          replace q377 := eq_true q377
          go_wp2
          go_roundg k1
          case measure => have := HK1.out; omega
          case rel => exact ⟨(x10_1), (wrap64 (x26_1 + 1)), (by rfl), H', ⟨by have := HK1.out; omega⟩, ⟨by exact HO_8.out⟩, ⟨by exact HO_10.out⟩, ⟨by exact HB.out⟩⟩
         ·rw [if_neg c14] at H
          have c14b0 : (Op.bytesLess a2.toList ((rdOf ByteArray.empty t373 x26_1).toList)) = false := by simpa using c14
          clear c14
          by_cases c15 : x10_1.length < 17592186044416
          ·rw [if_pos c15] at H
           have LMc15 := Ak c15
           clear c15
           obtain ⟨y378, hy378⟩ : ∃ y_ : List Int, y_ = (x10_1 ++ [x26_1]) := ⟨_, rfl⟩
           replace H : (e_WhereText.l0 k1 a1 a2 t373 y378 (t373.length : Int) (wrap64 (x26_1 + 1))) = some (r1, r2) := by (rw [hy378]; with_reducible exact H)
           have Ny378 := Ak hy378
           clear hy378
           have H' := Ak H
           clear H
           have p377 : 0 ≤ (x26_1 : Int) := of_decide_eq_true (by (with_reducible assumption))
           have q377 : x26_1 < (t373.length : Int) := of_decide_eq_true (by (with_reducible assumption))
           obtain ⟨ad377, e377, hx377_0⟩ := Kd.at_string (Kd.R_reads' HO_8.out).2.2 x26_1 p377 q377
           cases e377
           replace p377 := eq_true p377
           replace q377 := eq_true q377
           go_wp2_with (first | ((with_reducible refine gate_builtin (b := .append) (xs := #[.tmp 39, .tmp 41]) rfl ?_); at_builtin; refine Kd.R_append (Kd.int .i64) (w0 := w) w.heap.size rfl (.tmp 39) (.tmp 41) 22 3 (.int .i64 0) 8 rfl Try.underlying22 info3 rfl (by decide) (by omega) u10 x10_1 x26_1 [.int .i64 x26_1] (fun _ => True) (fun _ => False) rfl rfl ?aP (fun _ hk => hk.elim) ?aF ?aO ?aB ?aS ?aL ?_; (case aP => exact rfl); (case aB => exact (by exact HB.out)); (case aF => exact (fun _ _ => trivial)); (case aO => exact (by exact HO_10.out)); (case aS => exact (below_size (by exact HB.out))); (case aL => have := LMc15.out; omega); intro v379 w16 ho hb hg hat; rw [← Ny378.out] at ho; have n0_ := Ak (Kd.R_over' (by exact HO_8.out) (Kd.R_typed (by exact HO_10.out)) (by decide) hg); have n1_ := Ak (hb); have n2_ := Ak (ho); clear HO_8 HB HO_10; have HO_8 := n0_; have HB := n1_; have HO380 := n2_; clear n0_ n1_ n2_ ho hb hg hat))
           go_roundg k1
           case measure => have := HK1.out; omega
           case rel => exact ⟨(y378), (wrap64 (x26_1 + 1)), (by rfl), H', ⟨by have := HK1.out; omega⟩, ⟨by exact HO_8.out⟩, ⟨by exact HO380.out⟩, ⟨by exact HB.out⟩⟩
          ·rw [if_neg c15] at H
           exact absurd H (by simp)
       ·rw [if_neg c12] at H
        exact absurd H (by simp)
      ·rw [if_neg c11] at H
       exact absurd H (by simp)
     ·rw [if_neg c10] at H
      have c10b0 : decide (x26_1 < (t373.length : Int)) = false := decide_eq_false c10
      clear c10
      simp only [Option.some.injEq, Prod.mk.injEq] at H
      obtain ⟨rfl, rfl⟩ := H
      go_wp2
      go_ret2
      exact ⟨_, by rfl, by exact HO_10.out, by exact HB.out⟩
 ·rw [if_neg c5] at H
  have c5b0 : (t374 == 0) = false := beq_eq_false_iff_ne.mpr c5
  have c5b1 : (t374 != 0) = true := bne_iff_ne.mpr c5
  simp only [Option.some.injEq, Prod.mk.injEq] at H
  obtain ⟨rfl, rfl⟩ := H
  go_enter Try.func38, Try.ntmps38
  go_wp2_with (first | ((with_reducible refine gate_callee (f := 36) rfl ?_); refine goesL_ (some 15) rfl rfl Try.func36 (by kernel_rfl) rfl #[.slice A0 l0.length c0] rfl (by (try simp only [lm]); rfl) ?_; (with_reducible refine (e_DecodeTexts.calls k _ _ l0 t373 t374 _ ?side1 ?side2 A4.out).mono ?_); (case side1 => repeat (exact HR0.out)); (case side2 => exact HC0.out); rintro e w17 ⟨v375, rfl, ho0, hb⟩; refine ⟨_, rfl, ?_⟩; have n0_ := Ak (Kd.R_lower ho0 (below_size (by exact HB.out))); have n1_ := Ak (below_step (by exact HB.out) hb); clear HB; have HO376 := n0_; have HB := n1_; clear n0_ n1_; (try clear hb); (try clear ho0)))
  go_ret2
  exact ⟨_, by rfl, by exact Kd.R_nil _ _ _ _ _, by exact HB.out⟩
def e_TextAt.f (k : Nat) (l0 : List Int) (a1 : Int) : Option (ByteArray × Int) := (e_DecodeTexts.f k l0).bind fun bt381 => (if bt381.2 = 0 then ((kit_In.f a1 0 (wrap64 ((bt381.1.length : Int) - 1))).bind fun t385 => (if t385 = true then (if 0 ≤ a1 then (if a1 < (bt381.1.length : Int) then (some (rdOf ByteArray.empty bt381.1 a1, 0)) else (none)) else (none)) else (some ((⟨#[]⟩ : ByteArray), 1)))) else (some ((⟨#[]⟩ : ByteArray), bt381.2)))
theorem e_TextAt.mono : ∀ a0 a1 k, LeO (e_TextAt.f k a0 a1) (e_TextAt.f (k + 1) a0 a1) := by
 intro a0 a1 k
 unfold e_TextAt.f
 repeat' first
  | (with_reducible exact e_DecodeTexts.mono _ _)
  | (with_reducible exact LeO.refl _)
  | (with_reducible refine LeO.bind ?_ (fun _ => ?_))
set_option maxHeartbeats 8000000 in
set_option maxRecDepth 100000 in
theorem e_TextAt.calls (k : Nat) (A0 : Option Addr) (c0 : Nat) (l0 : List Int) (a1 : Int) (r1 : ByteArray) (r2 : Int) (w : World) (hr0 : Kd.C (Kd.int .u8) w A0 l0.length l0) (hc0 : l0.length ≤ c0) (h : e_TextAt.f k l0 a1 = some (r1, r2)) :
 Calls Try.prog 39 #[.slice A0 l0.length c0, .int .i64 a1] w fun e w' => e = .returned (.tuple #[.string r1, .int .i64 r2]) ∧ Below w.heap.size w w' := by
 have HR0 := Ak hr0
 have HC0 := Ak hc0
 clear hr0 hc0
 have HB := Ak (Below.refl w.heap.size w)
 have H : ((e_DecodeTexts.f k l0).bind fun bt381 => (if bt381.2 = 0 then ((kit_In.f a1 0 (wrap64 ((bt381.1.length : Int) - 1))).bind fun t385 => (if t385 = true then (if 0 ≤ a1 then (if a1 < (bt381.1.length : Int) then (some (rdOf ByteArray.empty bt381.1 a1, 0)) else (none)) else (none)) else (some ((⟨#[]⟩ : ByteArray), 1)))) else (some ((⟨#[]⟩ : ByteArray), bt381.2)))) = some (r1, r2) := h
 clear h
 replace H := Option.bind_eq_some_iff.mp H
 obtain ⟨⟨t381, t382⟩, A30, H⟩ := H
 replace H : (if t382 = 0 then ((kit_In.f a1 0 (wrap64 ((t381.length : Int) - 1))).bind fun t385 => (if t385 = true then (if 0 ≤ a1 then (if a1 < (t381.length : Int) then (some (rdOf ByteArray.empty t381 a1, 0)) else (none)) else (none)) else (some ((⟨#[]⟩ : ByteArray), 1)))) else (some ((⟨#[]⟩ : ByteArray), t382))) = some (r1, r2) := H
 have A3 := Ak A30
 clear A30
 by_cases c4 : t382 = 0
 ·rw [if_pos c4] at H
  have c4b0 : (t382 == 0) = true := beq_iff_eq.mpr c4
  have c4b1 : (t382 != 0) = false := bne_eq_false_iff_eq.mpr c4
  clear c4
  replace H := Option.bind_eq_some_iff.mp H
  obtain ⟨t385, A50, H⟩ := H
  replace H : (if t385 = true then (if 0 ≤ a1 then (if a1 < (t381.length : Int) then (some (rdOf ByteArray.empty t381 a1, 0)) else (none)) else (none)) else (some ((⟨#[]⟩ : ByteArray), 1))) = some (r1, r2) := H
  have A5 := Ak A50
  clear A50
  by_cases c6 : t385 = true
  ·subst c6
   replace H : (if 0 ≤ a1 then (if a1 < (t381.length : Int) then (some (rdOf ByteArray.empty t381 a1, 0)) else (none)) else (none)) = some (r1, r2) := by rw [if_pos rfl] at H; exact H
   by_cases c7 : 0 ≤ a1
   ·rw [if_pos c7] at H
    have c7b0 : decide (0 ≤ a1) = true := decide_eq_true c7
    clear c7
    by_cases c8 : a1 < (t381.length : Int)
    ·rw [if_pos c8] at H
     have c8b0 : decide (a1 < (t381.length : Int)) = true := decide_eq_true c8
     clear c8
     simp only [Option.some.injEq, Prod.mk.injEq] at H
     obtain ⟨rfl, rfl⟩ := H
     go_enter Try.func39, Try.ntmps39
     go_wp2_with (first | ((with_reducible refine gate_callee (f := 36) rfl ?_); refine goesL_ (some 10) rfl rfl Try.func36 (by kernel_rfl) rfl #[.slice A0 l0.length c0] rfl (by (try simp only [lm]); rfl) ?_; (with_reducible refine (e_DecodeTexts.calls k _ _ l0 t381 t382 _ ?side1 ?side2 A3.out).mono ?_); (case side1 => repeat (exact HR0.out)); (case side2 => exact HC0.out); rintro e w9 ⟨v383, rfl, ho0, hb⟩; refine ⟨_, rfl, ?_⟩; have n0_ := Ak (Kd.R_lower ho0 (below_size (by exact HB.out))); have n1_ := Ak (below_step (by exact HB.out) hb); clear HB; have HO384 := n0_; have HB := n1_; clear n0_ n1_; (try clear hb); (try clear ho0); obtain ⟨Ao10, co10, eo10⟩ := Kd.R_slice HO384.out; subst eo10) | ((with_reducible refine gate_callee (f := 52) rfl ?_); refine goesL_ (some 20) rfl rfl Try.func52 (by kernel_rfl) rfl #[.int .i64 a1, .int .i64 0, .int .i64 (wrap64 ((t381.length : Int) - 1))] rfl (by (try simp only [lm]); rfl) ?_; (with_reducible refine (kit_In.calls a1 0 (wrap64 ((t381.length : Int) - 1)) true _ A5.out).mono ?_); rintro e w' ⟨rfl, ⟨nd, rfl⟩⟩; refine ⟨_, rfl, ?_⟩; have p386 : 0 ≤ (a1 : Int) := of_decide_eq_true (by (with_reducible assumption)); have q386 : a1 < (t381.length : Int) := of_decide_eq_true (by (with_reducible assumption)); obtain ⟨ad386, e386, hx386_0⟩ := Kd.at_string (Kd.R_reads' HO384.out).2.2 a1 p386 q386; cases e386; replace p386 := eq_true p386; replace q386 := eq_true q386))
     go_ret2
     exact ⟨by rfl, by repeat ((with_reducible first | exact HB.out | apply pw_below_drewN))⟩
    ·rw [if_neg c8] at H
     exact absurd H (by simp)
   ·rw [if_neg c7] at H
    exact absurd H (by simp)
  ·replace c6 := Bool.eq_false_iff.mpr c6
   subst c6
   replace H : (some ((⟨#[]⟩ : ByteArray), 1)) = some (r1, r2) := by rw [if_neg (show ¬ (false = true) by decide)] at H; exact H
   simp only [Option.some.injEq, Prod.mk.injEq] at H
   obtain ⟨rfl, rfl⟩ := H
   go_enter Try.func39, Try.ntmps39
   go_wp2_with (first | ((with_reducible refine gate_callee (f := 36) rfl ?_); refine goesL_ (some 10) rfl rfl Try.func36 (by kernel_rfl) rfl #[.slice A0 l0.length c0] rfl (by (try simp only [lm]); rfl) ?_; (with_reducible refine (e_DecodeTexts.calls k _ _ l0 t381 t382 _ ?side1 ?side2 A3.out).mono ?_); (case side1 => repeat (exact HR0.out)); (case side2 => exact HC0.out); rintro e w11 ⟨v383, rfl, ho0, hb⟩; refine ⟨_, rfl, ?_⟩; have n0_ := Ak (Kd.R_lower ho0 (below_size (by exact HB.out))); have n1_ := Ak (below_step (by exact HB.out) hb); clear HB; have HO384 := n0_; have HB := n1_; clear n0_ n1_; (try clear hb); (try clear ho0); obtain ⟨Ao12, co12, eo12⟩ := Kd.R_slice HO384.out; subst eo12) | ((with_reducible refine gate_callee (f := 52) rfl ?_); refine goesL_ (some 20) rfl rfl Try.func52 (by kernel_rfl) rfl #[.int .i64 a1, .int .i64 0, .int .i64 (wrap64 ((t381.length : Int) - 1))] rfl (by (try simp only [lm]); rfl) ?_; (with_reducible refine (kit_In.calls a1 0 (wrap64 ((t381.length : Int) - 1)) false _ A5.out).mono ?_); rintro e w' ⟨rfl, ⟨nd, rfl⟩⟩; refine ⟨_, rfl, ?_⟩))
   go_ret2
   exact ⟨by rfl, by repeat ((with_reducible first | exact HB.out | apply pw_below_drewN))⟩
 ·rw [if_neg c4] at H
  have c4b0 : (t382 == 0) = false := beq_eq_false_iff_ne.mpr c4
  have c4b1 : (t382 != 0) = true := bne_iff_ne.mpr c4
  simp only [Option.some.injEq, Prod.mk.injEq] at H
  obtain ⟨rfl, rfl⟩ := H
  go_enter Try.func39, Try.ntmps39
  go_wp2_with (first | ((with_reducible refine gate_callee (f := 36) rfl ?_); refine goesL_ (some 10) rfl rfl Try.func36 (by kernel_rfl) rfl #[.slice A0 l0.length c0] rfl (by (try simp only [lm]); rfl) ?_; (with_reducible refine (e_DecodeTexts.calls k _ _ l0 t381 t382 _ ?side1 ?side2 A3.out).mono ?_); (case side1 => repeat (exact HR0.out)); (case side2 => exact HC0.out); rintro e w13 ⟨v383, rfl, ho0, hb⟩; refine ⟨_, rfl, ?_⟩; have n0_ := Ak (Kd.R_lower ho0 (below_size (by exact HB.out))); have n1_ := Ak (below_step (by exact HB.out) hb); clear HB; have HO384 := n0_; have HB := n1_; clear n0_ n1_; (try clear hb); (try clear ho0)))
  go_ret2
  exact ⟨by rfl, by exact HB.out⟩
def peristyleref1_within.f (a0 : Int) (a1 : Int) (a2 : Int) : Option (Bool) := if a0 ≥ a1 then (some (decide (a0 ≤ a2))) else (some false)
set_option maxHeartbeats 8000000 in
set_option maxRecDepth 100000 in
theorem peristyleref1_within.calls (a0 : Int) (a1 : Int) (a2 : Int) (r : Bool) (w : World) (h : peristyleref1_within.f a0 a1 a2 = some r) :
 Calls Try.prog 122 #[.int .i64 a0, .int .i64 a1, .int .i64 a2] w fun e w' => e = .returned (.bool r) ∧ Drawn0 w w' := by
 have H : (if a0 ≥ a1 then (some (decide (a0 ≤ a2))) else (some false)) = some r := h
 clear h
 by_cases c4 : a0 ≥ a1
 ·rw [if_pos c4] at H
  have c4b0 : decide (a1 ≤ a0) = true := decide_eq_true c4
  clear c4
  obtain rfl := Option.some.inj H
  go_enter Try.func122, Try.ntmps122
  go_wp2
  go_ret
  exact ⟨by rfl, by repeat (exact Drawn0.refl _)⟩
 ·rw [if_neg c4] at H
  have c4b0 : decide (a1 ≤ a0) = false := decide_eq_false c4
  clear c4
  obtain rfl := Option.some.inj H
  go_enter Try.func122, Try.ntmps122
  go_wp2
  go_ret
  exact ⟨by rfl, by repeat (exact Drawn0.refl _)⟩
end Go.Proofs.Ythhdihnaicggiaa.D
