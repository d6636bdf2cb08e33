/- Printed by a program of this session: Lean functions that answer as the Go functions do, with the proofs of it. No conditions beyond those in each theorem. -/
import Derived.Test.YthhdihnaicggiaaDP1
namespace Go.Proofs.Ythhdihnaicggiaa.D
open Go.RowKit Go.Proofs.YthhdihnaicggiaaW.PrintWords Go.Proofs.YthhdihnaicggiaaW.PrintLast Go.Proofs.YthhdihnaicggiaaW.PrintMore
attribute [local go_sem] max2_int min2_int max_two min_two max_three min_three max_four min_four gtr_str leq_str geq_str   -- for this text's walks alone
set_option linter.unusedVariables false
set_option linter.unusedSimpArgs false
mutual
def peristyleref1_CheckValue.j0 : Nat → Bool → Int → Int → ByteArray → Option (Int)
 | 0, _, _, _, _ => none
 | k + 1, x30, x388000, x388001, x388002 => if x30 = true then (some 3) else (if x388000 = 1 then ((peristyleref1_within.f x388001 0 1).bind fun t389 => (if t389 = true then (if x388000 = 2 then ((peristyleref1_within.f x388001 (-1000000000000000) 1000000000000000).bind fun t390 => (peristyleref1_CheckValue.j1 k (!t390) x388000 x388001 x388002)) else (peristyleref1_CheckValue.j1 k false x388000 x388001 x388002)) else (peristyleref1_CheckValue.j1 k true x388000 x388001 x388002))) else (if x388000 = 2 then ((peristyleref1_within.f x388001 (-1000000000000000) 1000000000000000).bind fun t391 => (peristyleref1_CheckValue.j1 k (!t391) x388000 x388001 x388002)) else (peristyleref1_CheckValue.j1 k false x388000 x388001 x388002)))
def peristyleref1_CheckValue.j1 : Nat → Bool → Int → Int → ByteArray → Option (Int)
 | 0, _, _, _, _ => none
 | k + 1, x50, x388000, x388001, x388002 => if x50 = true then (some 1) else (if (x388002.size : Int) > 200 then (some 2) else (peristyleref1_CheckValue.l0 k 0 x388000 x388001 x388002))
def peristyleref1_CheckValue.l0 : Nat → Int → Int → Int → ByteArray → Option (Int)
 | 0, _, _, _, _ => none
 | k + 1, x3, x388000, x388001, x388002 => if x3 < (x388002.size : Int) then (if 0 ≤ x3 then (if (bt x388002 x3) < 32 then (some 3) else (if (bt x388002 x3) > 126 then (some 3) else (peristyleref1_CheckValue.l0 k (wrap64 (x3 + 1)) x388000 x388001 x388002))) else (none)) else (some 0)
end
def peristyleref1_CheckValue.f (k : Nat) (a0_0 : Int) (a0_1 : Int) (a0_2 : ByteArray) : Option (Int) := (peristyleref1_within.f a0_0 0 3).bind fun t388 => (if t388 = true then (if a0_0 = 1 then (if a0_0 = 3 then (peristyleref1_CheckValue.j0 k false a0_0 a0_1 a0_2) else (peristyleref1_CheckValue.j0 k (a0_2.toList != ([] : List UInt8)) a0_0 a0_1 a0_2)) else (if a0_0 = 2 then (if a0_0 = 3 then (peristyleref1_CheckValue.j0 k false a0_0 a0_1 a0_2) else (peristyleref1_CheckValue.j0 k (a0_2.toList != ([] : List UInt8)) a0_0 a0_1 a0_2)) else (if a0_1 = 0 then (if a0_0 = 3 then (peristyleref1_CheckValue.j0 k false a0_0 a0_1 a0_2) else (peristyleref1_CheckValue.j0 k (a0_2.toList != ([] : List UInt8)) a0_0 a0_1 a0_2)) else (peristyleref1_CheckValue.j0 k true a0_0 a0_1 a0_2)))) else (some 4))
theorem peristyleref1_CheckValue.mono_l : ∀ k, (∀ y0 y1 y2 y3, LeO (peristyleref1_CheckValue.j0 k y0 y1 y2 y3) (peristyleref1_CheckValue.j0 (k + 1) y0 y1 y2 y3)) ∧ (∀ y0 y1 y2 y3, LeO (peristyleref1_CheckValue.j1 k y0 y1 y2 y3) (peristyleref1_CheckValue.j1 (k + 1) y0 y1 y2 y3)) ∧ (∀ y0 y1 y2 y3, LeO (peristyleref1_CheckValue.l0 k y0 y1 y2 y3) (peristyleref1_CheckValue.l0 (k + 1) y0 y1 y2 y3))
 | 0 => ⟨fun _ _ _ _ r h => by simp [peristyleref1_CheckValue.j0] at h, fun _ _ _ _ r h => by simp [peristyleref1_CheckValue.j1] at h, fun _ _ _ _ r h => by simp [peristyleref1_CheckValue.l0] at h⟩
 | k + 1 => by
  obtain ⟨ih0, ih1, ih2⟩ := peristyleref1_CheckValue.mono_l k
  refine ⟨?_, ?_, ?_⟩ <;> intros
  all_goals (first | unfold peristyleref1_CheckValue.j0 | unfold peristyleref1_CheckValue.j1 | unfold peristyleref1_CheckValue.l0)
  all_goals
   repeat' first
   | (with_reducible exact ih1 _ _ _ _)
   | (with_reducible exact ih2 _ _ _ _)
   | (with_reducible exact LeO.refl _)
   | (with_reducible refine LeO.ite ?_ ?_)
   | (with_reducible refine LeO.bind ?_ (fun _ => ?_))
theorem peristyleref1_CheckValue.mono : ∀ a0 a1 a2 k, LeO (peristyleref1_CheckValue.f k a0 a1 a2) (peristyleref1_CheckValue.f (k + 1) a0 a1 a2) := by
 intro a0 a1 a2 k
 obtain ⟨ih0, ih1, ih2⟩ := peristyleref1_CheckValue.mono_l k
 unfold peristyleref1_CheckValue.f
 repeat' first
  | (with_reducible exact ih0 _ _ _ _)
  | (with_reducible exact LeO.refl _)
  | (with_reducible refine LeO.ite ?_ ?_)
  | (with_reducible refine LeO.bind ?_ (fun _ => ?_))
set_option maxHeartbeats 8000000 in
set_option maxRecDepth 100000 in
theorem peristyleref1_CheckValue.calls (k : Nat) (a0_0 : Int) (a0_1 : Int) (a0_2 : ByteArray) (r : Int) (w : World) (h : peristyleref1_CheckValue.f k a0_0 a0_1 a0_2 = some r) :
 Calls Try.prog 100 #[.agg #[.int .i64 a0_0, .int .i64 a0_1, .string a0_2]] w fun e w' => e = .returned (.int .i64 r) ∧ Below w.heap.size w w' := by
 have hu101 := Try.underlying101
 have HB := Ak (Below.refl w.heap.size w)
 have H : ((peristyleref1_within.f a0_0 0 3).bind fun t388 => (if t388 = true then (if a0_0 = 1 then (if a0_0 = 3 then (peristyleref1_CheckValue.j0 k false a0_0 a0_1 a0_2) else (peristyleref1_CheckValue.j0 k (a0_2.toList != ([] : List UInt8)) a0_0 a0_1 a0_2)) else (if a0_0 = 2 then (if a0_0 = 3 then (peristyleref1_CheckValue.j0 k false a0_0 a0_1 a0_2) else (peristyleref1_CheckValue.j0 k (a0_2.toList != ([] : List UInt8)) a0_0 a0_1 a0_2)) else (if a0_1 = 0 then (if a0_0 = 3 then (peristyleref1_CheckValue.j0 k false a0_0 a0_1 a0_2) else (peristyleref1_CheckValue.j0 k (a0_2.toList != ([] : List UInt8)) a0_0 a0_1 a0_2)) else (peristyleref1_CheckValue.j0 k true a0_0 a0_1 a0_2)))) else (some 4))) = some r := h
 clear h
 replace H := Option.bind_eq_some_iff.mp H
 obtain ⟨t388, A20, H⟩ := H
 replace H : (if t388 = true then (if a0_0 = 1 then (if a0_0 = 3 then (peristyleref1_CheckValue.j0 k false a0_0 a0_1 a0_2) else (peristyleref1_CheckValue.j0 k (a0_2.toList != ([] : List UInt8)) a0_0 a0_1 a0_2)) else (if a0_0 = 2 then (if a0_0 = 3 then (peristyleref1_CheckValue.j0 k false a0_0 a0_1 a0_2) else (peristyleref1_CheckValue.j0 k (a0_2.toList != ([] : List UInt8)) a0_0 a0_1 a0_2)) else (if a0_1 = 0 then (if a0_0 = 3 then (peristyleref1_CheckValue.j0 k false a0_0 a0_1 a0_2) else (peristyleref1_CheckValue.j0 k (a0_2.toList != ([] : List UInt8)) a0_0 a0_1 a0_2)) else (peristyleref1_CheckValue.j0 k true a0_0 a0_1 a0_2)))) else (some 4)) = some r := H
 have A2 := Ak A20
 clear A20
 by_cases c3 : t388 = true
 ·subst c3
  replace H : (if a0_0 = 1 then (if a0_0 = 3 then (peristyleref1_CheckValue.j0 k false a0_0 a0_1 a0_2) else (peristyleref1_CheckValue.j0 k (a0_2.toList != ([] : List UInt8)) a0_0 a0_1 a0_2)) else (if a0_0 = 2 then (if a0_0 = 3 then (peristyleref1_CheckValue.j0 k false a0_0 a0_1 a0_2) else (peristyleref1_CheckValue.j0 k (a0_2.toList != ([] : List UInt8)) a0_0 a0_1 a0_2)) else (if a0_1 = 0 then (if a0_0 = 3 then (peristyleref1_CheckValue.j0 k false a0_0 a0_1 a0_2) else (peristyleref1_CheckValue.j0 k (a0_2.toList != ([] : List UInt8)) a0_0 a0_1 a0_2)) else (peristyleref1_CheckValue.j0 k true a0_0 a0_1 a0_2)))) = some r := by rw [if_pos rfl] at H; exact H
  have HC4 := Ak H
  clear H
  go_enter Try.func100, Try.ntmps100
  go_upto_region 3 with (first | ((with_reducible refine gate_dst (N := 1) rfl ?_); refine box_event ?hg (N := 1) ?hd (cs := #[.int .i64 a0_0, .int .i64 a0_1, .string a0_2]) (t := 101) ?hr ?_; (case hd => rfl); (case hg => rfl); (case hr => (go_simp; done)); intro gb387 hg w5 hbox hb; have n0_ := Ak (below_step (by exact HB.out) hb); have n1_ := Ak (hbox); have n2_ := Ak ((by rw [hg]; exact (below_size (by exact HB.out)) : w.heap.size ≤ gb387)); have n3_ := Ak ((by rw [hg]; exact (below_size (by exact HB.out)) : w.heap.size ≤ gb387)); clear HB; have HB := n0_; have BK387 := n1_; have GW387 := n2_; have GE387 := n3_; clear n0_ n1_ n2_ n3_ hb hbox hg; have hcz6_0 : w5.cell? ⟨gb387, 0, none⟩ = some (.int .i64 a0_0) := (blk_cell BK387.out 0).trans rfl; have hcz6_1 : w5.cell? ⟨gb387, 1, none⟩ = some (.int .i64 a0_1) := (blk_cell BK387.out 1).trans rfl; have hcz6_2 : w5.cell? ⟨gb387, 2, none⟩ = some (.string a0_2) := (blk_cell BK387.out 2).trans rfl; have hfz6_0 := blk_frozen BK387.out 0; have hfz6_1 := blk_frozen BK387.out 1; have hfz6_2 := blk_frozen BK387.out 2) | ((with_reducible refine gate_callee (f := 122) rfl ?_); refine goesL_ (some 6) rfl rfl Try.func122 (by kernel_rfl) rfl #[.int .i64 a0_0, .int .i64 0, .int .i64 3] rfl (by (try simp only [lm]); rfl) ?_; (with_reducible refine (peristyleref1_within.calls a0_0 0 3 true _ A2.out).mono ?_); rintro e w' ⟨rfl, ⟨nd, rfl⟩⟩; refine ⟨_, rfl, ?_⟩))
  (try simp only [Act.put, List.setIfInBounds_toArray, List.set_cons_zero, List.set_cons_succ])
  go_cut [30] (fun v30 wc => ∃ (kq : Nat) (x30_3 : Bool), v30 = .bool x30_3 ∧ Aside0 (peristyleref1_CheckValue.j0 kq x30_3 a0_0 a0_1 a0_2 = some r) ∧ Aside0 (kq ≤ k) ∧ Aside0 (wc.heap[gb387]? = some (.cells #[.int .i64 a0_0, .int .i64 a0_1, .string a0_2] 101 (0, 0))) ∧ Aside0 (Below w.heap.size w wc))
  case first =>
   have H := HC4.out
   clear HC4
   by_cases c7 : a0_0 = 1
   ·rw [if_pos c7] at H
    have c7b0 : (a0_0 == 1) = true := beq_iff_eq.mpr c7
    have c7b1 : (a0_0 != 1) = false := bne_eq_false_iff_eq.mpr c7
    clear c7
    (skip)
    (try rw [c7b1])
    by_cases c8 : a0_0 = 3
    ·rw [if_pos c8] at H
     have c8b0 : (a0_0 == 3) = true := beq_iff_eq.mpr c8
     have c8b1 : (a0_0 != 3) = false := bne_eq_false_iff_eq.mpr c8
     clear c8
     have H' := Ak H
     clear H
     have hcz9_0 : w5.cell? ⟨gb387, 0, none⟩ = some (.int .i64 a0_0) := (blk_cell BK387.out 0).trans rfl
     have hcz9_1 : w5.cell? ⟨gb387, 1, none⟩ = some (.int .i64 a0_1) := (blk_cell BK387.out 1).trans rfl
     have hcz9_2 : w5.cell? ⟨gb387, 2, none⟩ = some (.string a0_2) := (blk_cell BK387.out 2).trans rfl
     have hfz9_0 := blk_frozen BK387.out 0
     have hfz9_1 := blk_frozen BK387.out 1
     have hfz9_2 := blk_frozen BK387.out 2
     go_wp2
     go_meet
     case rel => exact ⟨_, (false), (by rfl), H', ⟨by omega⟩, ⟨by (with_reducible repeat (refine blk_drewN ?_ _)); exact BK387.out⟩, ⟨by repeat ((with_reducible first | exact HB.out | apply pw_below_drewN ))⟩⟩
    ·rw [if_neg c8] at H
     have c8b0 : (a0_0 == 3) = false := beq_eq_false_iff_ne.mpr c8
     have c8b1 : (a0_0 != 3) = true := bne_iff_ne.mpr c8
     have H' := Ak H
     clear H
     have hcz10_0 : w5.cell? ⟨gb387, 0, none⟩ = some (.int .i64 a0_0) := (blk_cell BK387.out 0).trans rfl
     have hcz10_1 : w5.cell? ⟨gb387, 1, none⟩ = some (.int .i64 a0_1) := (blk_cell BK387.out 1).trans rfl
     have hcz10_2 : w5.cell? ⟨gb387, 2, none⟩ = some (.string a0_2) := (blk_cell BK387.out 2).trans rfl
     have hfz10_0 := blk_frozen BK387.out 0
     have hfz10_1 := blk_frozen BK387.out 1
     have hfz10_2 := blk_frozen BK387.out 2
     go_wp2
     go_meet
     case rel => exact ⟨_, ((a0_2.toList != ([] : List UInt8))), (by (generalize ByteArray.toList _ = l_; cases l_ <;> rfl)), H', ⟨by omega⟩, ⟨by (with_reducible repeat (refine blk_drewN ?_ _)); exact BK387.out⟩, ⟨by repeat ((with_reducible first | exact HB.out | apply pw_below_drewN ))⟩⟩
   ·rw [if_neg c7] at H
    have c7b0 : (a0_0 == 1) = false := beq_eq_false_iff_ne.mpr c7
    have c7b1 : (a0_0 != 1) = true := bne_iff_ne.mpr c7
    (skip)
    (try rw [c7b1])
    by_cases c11 : a0_0 = 2
    ·rw [if_pos c11] at H
     have c11b0 : (a0_0 == 2) = true := beq_iff_eq.mpr c11
     have c11b1 : (a0_0 != 2) = false := bne_eq_false_iff_eq.mpr c11
     clear c11
     by_cases c12 : a0_0 = 3
     ·rw [if_pos c12] at H
      have c12b0 : (a0_0 == 3) = true := beq_iff_eq.mpr c12
      have c12b1 : (a0_0 != 3) = false := bne_eq_false_iff_eq.mpr c12
      clear c12
      have H' := Ak H
      clear H
      have hcz13_0 : w5.cell? ⟨gb387, 0, none⟩ = some (.int .i64 a0_0) := (blk_cell BK387.out 0).trans rfl
      have hcz13_1 : w5.cell? ⟨gb387, 1, none⟩ = some (.int .i64 a0_1) := (blk_cell BK387.out 1).trans rfl
      have hcz13_2 : w5.cell? ⟨gb387, 2, none⟩ = some (.string a0_2) := (blk_cell BK387.out 2).trans rfl
      have hfz13_0 := blk_frozen BK387.out 0
      have hfz13_1 := blk_frozen BK387.out 1
      have hfz13_2 := blk_frozen BK387.out 2
      go_wp2
      go_meet
      case rel => exact ⟨_, (false), (by rfl), H', ⟨by omega⟩, ⟨by (with_reducible repeat (refine blk_drewN ?_ _)); exact BK387.out⟩, ⟨by repeat ((with_reducible first | exact HB.out | apply pw_below_drewN ))⟩⟩
     ·rw [if_neg c12] at H
      have c12b0 : (a0_0 == 3) = false := beq_eq_false_iff_ne.mpr c12
      have c12b1 : (a0_0 != 3) = true := bne_iff_ne.mpr c12
      have H' := Ak H
      clear H
      have hcz14_0 : w5.cell? ⟨gb387, 0, none⟩ = some (.int .i64 a0_0) := (blk_cell BK387.out 0).trans rfl
      have hcz14_1 : w5.cell? ⟨gb387, 1, none⟩ = some (.int .i64 a0_1) := (blk_cell BK387.out 1).trans rfl
      have hcz14_2 : w5.cell? ⟨gb387, 2, none⟩ = some (.string a0_2) := (blk_cell BK387.out 2).trans rfl
      have hfz14_0 := blk_frozen BK387.out 0
      have hfz14_1 := blk_frozen BK387.out 1
      have hfz14_2 := blk_frozen BK387.out 2
      go_wp2
      go_meet
      case rel => exact ⟨_, ((a0_2.toList != ([] : List UInt8))), (by (generalize ByteArray.toList _ = l_; cases l_ <;> rfl)), H', ⟨by omega⟩, ⟨by (with_reducible repeat (refine blk_drewN ?_ _)); exact BK387.out⟩, ⟨by repeat ((with_reducible first | exact HB.out | apply pw_below_drewN ))⟩⟩
    ·rw [if_neg c11] at H
     have c11b0 : (a0_0 == 2) = false := beq_eq_false_iff_ne.mpr c11
     have c11b1 : (a0_0 != 2) = true := bne_iff_ne.mpr c11
     by_cases c15 : a0_1 = 0
     ·rw [if_pos c15] at H
      have c15b0 : (a0_1 == 0) = true := beq_iff_eq.mpr c15
      have c15b1 : (a0_1 != 0) = false := bne_eq_false_iff_eq.mpr c15
      clear c15
      by_cases c16 : a0_0 = 3
      ·rw [if_pos c16] at H
       have c16b0 : (a0_0 == 3) = true := beq_iff_eq.mpr c16
       have c16b1 : (a0_0 != 3) = false := bne_eq_false_iff_eq.mpr c16
       clear c16
       have H' := Ak H
       clear H
       have hcz17_0 : w5.cell? ⟨gb387, 0, none⟩ = some (.int .i64 a0_0) := (blk_cell BK387.out 0).trans rfl
       have hcz17_1 : w5.cell? ⟨gb387, 1, none⟩ = some (.int .i64 a0_1) := (blk_cell BK387.out 1).trans rfl
       have hcz17_2 : w5.cell? ⟨gb387, 2, none⟩ = some (.string a0_2) := (blk_cell BK387.out 2).trans rfl
       have hfz17_0 := blk_frozen BK387.out 0
       have hfz17_1 := blk_frozen BK387.out 1
       have hfz17_2 := blk_frozen BK387.out 2
       go_wp2
       go_meet
       case rel => exact ⟨_, (false), (by rfl), H', ⟨by omega⟩, ⟨by (with_reducible repeat (refine blk_drewN ?_ _)); exact BK387.out⟩, ⟨by repeat ((with_reducible first | exact HB.out | apply pw_below_drewN ))⟩⟩
      ·rw [if_neg c16] at H
       have c16b0 : (a0_0 == 3) = false := beq_eq_false_iff_ne.mpr c16
       have c16b1 : (a0_0 != 3) = true := bne_iff_ne.mpr c16
       have H' := Ak H
       clear H
       have hcz18_0 : w5.cell? ⟨gb387, 0, none⟩ = some (.int .i64 a0_0) := (blk_cell BK387.out 0).trans rfl
       have hcz18_1 : w5.cell? ⟨gb387, 1, none⟩ = some (.int .i64 a0_1) := (blk_cell BK387.out 1).trans rfl
       have hcz18_2 : w5.cell? ⟨gb387, 2, none⟩ = some (.string a0_2) := (blk_cell BK387.out 2).trans rfl
       have hfz18_0 := blk_frozen BK387.out 0
       have hfz18_1 := blk_frozen BK387.out 1
       have hfz18_2 := blk_frozen BK387.out 2
       go_wp2
       go_meet
       case rel => exact ⟨_, ((a0_2.toList != ([] : List UInt8))), (by (generalize ByteArray.toList _ = l_; cases l_ <;> rfl)), H', ⟨by omega⟩, ⟨by (with_reducible repeat (refine blk_drewN ?_ _)); exact BK387.out⟩, ⟨by repeat ((with_reducible first | exact HB.out | apply pw_below_drewN ))⟩⟩
     ·rw [if_neg c15] at H
      have c15b0 : (a0_1 == 0) = false := beq_eq_false_iff_ne.mpr c15
      have c15b1 : (a0_1 != 0) = true := bne_iff_ne.mpr c15
      have H' := Ak H
      clear H
      have hcz19_0 : w5.cell? ⟨gb387, 0, none⟩ = some (.int .i64 a0_0) := (blk_cell BK387.out 0).trans rfl
      have hcz19_1 : w5.cell? ⟨gb387, 1, none⟩ = some (.int .i64 a0_1) := (blk_cell BK387.out 1).trans rfl
      have hcz19_2 : w5.cell? ⟨gb387, 2, none⟩ = some (.string a0_2) := (blk_cell BK387.out 2).trans rfl
      have hfz19_0 := blk_frozen BK387.out 0
      have hfz19_1 := blk_frozen BK387.out 1
      have hfz19_2 := blk_frozen BK387.out 2
      go_wp2
      go_meet
      case rel => exact ⟨_, (true), (by rfl), H', ⟨by omega⟩, ⟨by (with_reducible repeat (refine blk_drewN ?_ _)); exact BK387.out⟩, ⟨by repeat ((with_reducible first | exact HB.out | apply pw_below_drewN ))⟩⟩
  case rest =>
   clear HC4
   try clear hcz6_0
   try clear hcz6_1
   try clear hcz6_2
   try clear hfz6_0
   try clear hfz6_1
   try clear hfz6_2
   obtain ⟨kq, x30_3, rfl, HA, HJ3, BK387, HB⟩ := hcut
   cases kq with
   | zero => exact absurd HA.out (by simp [peristyleref1_CheckValue.j0])
   | succ kj3 =>
    have H := HA.out
    clear HA
    simp only [peristyleref1_CheckValue.j0] at H
    by_cases c20 : x30_3 = true
    ·subst c20
     replace H : (some 3) = some r := by rw [if_pos rfl] at H; exact H
     obtain rfl := Option.some.inj H
     go_wp2
     go_ret
     exact ⟨by rfl, by exact HB.out⟩
    ·replace c20 := Bool.eq_false_iff.mpr c20
     subst c20
     replace H : (if a0_0 = 1 then ((peristyleref1_within.f a0_1 0 1).bind fun t389 => (if t389 = true then (if a0_0 = 2 then ((peristyleref1_within.f a0_1 (-1000000000000000) 1000000000000000).bind fun t390 => (peristyleref1_CheckValue.j1 kj3 (!t390) a0_0 a0_1 a0_2)) else (peristyleref1_CheckValue.j1 kj3 false a0_0 a0_1 a0_2)) else (peristyleref1_CheckValue.j1 kj3 true a0_0 a0_1 a0_2))) else (if a0_0 = 2 then ((peristyleref1_within.f a0_1 (-1000000000000000) 1000000000000000).bind fun t391 => (peristyleref1_CheckValue.j1 kj3 (!t391) a0_0 a0_1 a0_2)) else (peristyleref1_CheckValue.j1 kj3 false a0_0 a0_1 a0_2))) = some r := by rw [if_neg (show ¬ (false = true) by decide)] at H; exact H
     have HC21 := Ak H
     clear H
     go_upto_region 5 with (fail)
     go_cut [50] (fun v50 wc => ∃ (kq : Nat) (x50_20 : Bool), v50 = .bool x50_20 ∧ Aside0 (peristyleref1_CheckValue.j1 kq x50_20 a0_0 a0_1 a0_2 = some r) ∧ Aside0 (kq ≤ kj3) ∧ Aside0 (wc.heap[gb387]? = some (.cells #[.int .i64 a0_0, .int .i64 a0_1, .string a0_2] 101 (0, 0))) ∧ Aside0 (Below w.heap.size w wc))
     case first =>
      have H := HC21.out
      clear HC21
      by_cases c22 : a0_0 = 1
      ·rw [if_pos c22] at H
       have c22b0 : (a0_0 == 1) = true := beq_iff_eq.mpr c22
       have c22b1 : (a0_0 != 1) = false := bne_eq_false_iff_eq.mpr c22
       clear c22
       (skip)
       (try rw [c22b1])
       replace H := Option.bind_eq_some_iff.mp H
       obtain ⟨t389, A230, H⟩ := H
       replace H : (if t389 = true then (if a0_0 = 2 then ((peristyleref1_within.f a0_1 (-1000000000000000) 1000000000000000).bind fun t390 => (peristyleref1_CheckValue.j1 kj3 (!t390) a0_0 a0_1 a0_2)) else (peristyleref1_CheckValue.j1 kj3 false a0_0 a0_1 a0_2)) else (peristyleref1_CheckValue.j1 kj3 true a0_0 a0_1 a0_2)) = some r := H
       have A23 := Ak A230
       clear A230
       by_cases c24 : t389 = true
       ·subst c24
        replace H : (if a0_0 = 2 then ((peristyleref1_within.f a0_1 (-1000000000000000) 1000000000000000).bind fun t390 => (peristyleref1_CheckValue.j1 kj3 (!t390) a0_0 a0_1 a0_2)) else (peristyleref1_CheckValue.j1 kj3 false a0_0 a0_1 a0_2)) = some r := by rw [if_pos rfl] at H; exact H
        by_cases c25 : a0_0 = 2
        ·rw [if_pos c25] at H
         have c25b0 : (a0_0 == 2) = true := beq_iff_eq.mpr c25
         have c25b1 : (a0_0 != 2) = false := bne_eq_false_iff_eq.mpr c25
         clear c25
         replace H := Option.bind_eq_some_iff.mp H
         obtain ⟨t390, A260, H⟩ := H
         replace H : (peristyleref1_CheckValue.j1 kj3 (!t390) a0_0 a0_1 a0_2) = some r := H
         have A26 := Ak A260
         clear A260
         have H' := Ak H
         clear H
         have hcz27_0 : wc.cell? ⟨gb387, 0, none⟩ = some (.int .i64 a0_0) := (blk_cell BK387.out 0).trans rfl
         have hcz27_1 : wc.cell? ⟨gb387, 1, none⟩ = some (.int .i64 a0_1) := (blk_cell BK387.out 1).trans rfl
         have hcz27_2 : wc.cell? ⟨gb387, 2, none⟩ = some (.string a0_2) := (blk_cell BK387.out 2).trans rfl
         have hfz27_0 := blk_frozen BK387.out 0
         have hfz27_1 := blk_frozen BK387.out 1
         have hfz27_2 := blk_frozen BK387.out 2
         go_wp2_with (first | (go_at_call 122; (with_reducible refine (peristyleref1_within.calls a0_1 0 1 true _ A23.out).mono ?_); rintro e w' ⟨rfl, ⟨nd, rfl⟩⟩) | (go_at_call 122; (with_reducible refine (peristyleref1_within.calls a0_1 (-1000000000000000) 1000000000000000 t390 _ A26.out).mono ?_); rintro e w' ⟨rfl, ⟨nd, rfl⟩⟩))
         go_meet
         case rel => exact ⟨_, (!t390), (by rfl), H', ⟨by have := HJ3.out; omega⟩, ⟨by (with_reducible repeat (refine blk_drewN ?_ _)); exact BK387.out⟩, ⟨by repeat ((with_reducible first | exact HB.out | apply pw_below_drewN ))⟩⟩
        ·rw [if_neg c25] at H
         have c25b0 : (a0_0 == 2) = false := beq_eq_false_iff_ne.mpr c25
         have c25b1 : (a0_0 != 2) = true := bne_iff_ne.mpr c25
         have H' := Ak H
         clear H
         have hcz28_0 : wc.cell? ⟨gb387, 0, none⟩ = some (.int .i64 a0_0) := (blk_cell BK387.out 0).trans rfl
         have hcz28_1 : wc.cell? ⟨gb387, 1, none⟩ = some (.int .i64 a0_1) := (blk_cell BK387.out 1).trans rfl
         have hcz28_2 : wc.cell? ⟨gb387, 2, none⟩ = some (.string a0_2) := (blk_cell BK387.out 2).trans rfl
         have hfz28_0 := blk_frozen BK387.out 0
         have hfz28_1 := blk_frozen BK387.out 1
         have hfz28_2 := blk_frozen BK387.out 2
         go_wp2_with (first | (go_at_call 122; (with_reducible refine (peristyleref1_within.calls a0_1 0 1 true _ A23.out).mono ?_); rintro e w' ⟨rfl, ⟨nd, rfl⟩⟩))
         go_meet
         case rel => exact ⟨_, (false), (by rfl), H', ⟨by have := HJ3.out; omega⟩, ⟨by (with_reducible repeat (refine blk_drewN ?_ _)); exact BK387.out⟩, ⟨by repeat ((with_reducible first | exact HB.out | apply pw_below_drewN ))⟩⟩
       ·replace c24 := Bool.eq_false_iff.mpr c24
        subst c24
        replace H : (peristyleref1_CheckValue.j1 kj3 true a0_0 a0_1 a0_2) = some r := by rw [if_neg (show ¬ (false = true) by decide)] at H; exact H
        have H' := Ak H
        clear H
        have hcz29_0 : wc.cell? ⟨gb387, 0, none⟩ = some (.int .i64 a0_0) := (blk_cell BK387.out 0).trans rfl
        have hcz29_1 : wc.cell? ⟨gb387, 1, none⟩ = some (.int .i64 a0_1) := (blk_cell BK387.out 1).trans rfl
        have hcz29_2 : wc.cell? ⟨gb387, 2, none⟩ = some (.string a0_2) := (blk_cell BK387.out 2).trans rfl
        have hfz29_0 := blk_frozen BK387.out 0
        have hfz29_1 := blk_frozen BK387.out 1
        have hfz29_2 := blk_frozen BK387.out 2
        go_wp2_with (first | (go_at_call 122; (with_reducible refine (peristyleref1_within.calls a0_1 0 1 false _ A23.out).mono ?_); rintro e w' ⟨rfl, ⟨nd, rfl⟩⟩))
        go_meet
        case rel => exact ⟨_, (true), (by rfl), H', ⟨by have := HJ3.out; omega⟩, ⟨by (with_reducible repeat (refine blk_drewN ?_ _)); exact BK387.out⟩, ⟨by repeat ((with_reducible first | exact HB.out | apply pw_below_drewN ))⟩⟩
      ·rw [if_neg c22] at H
       have c22b0 : (a0_0 == 1) = false := beq_eq_false_iff_ne.mpr c22
       have c22b1 : (a0_0 != 1) = true := bne_iff_ne.mpr c22
       (skip)
       (try rw [c22b1])
       by_cases c30 : a0_0 = 2
       ·rw [if_pos c30] at H
        have c30b0 : (a0_0 == 2) = true := beq_iff_eq.mpr c30
        have c30b1 : (a0_0 != 2) = false := bne_eq_false_iff_eq.mpr c30
        clear c30
        replace H := Option.bind_eq_some_iff.mp H
        obtain ⟨t391, A310, H⟩ := H
        replace H : (peristyleref1_CheckValue.j1 kj3 (!t391) a0_0 a0_1 a0_2) = some r := H
        have A31 := Ak A310
        clear A310
        have H' := Ak H
        clear H
        have hcz32_0 : wc.cell? ⟨gb387, 0, none⟩ = some (.int .i64 a0_0) := (blk_cell BK387.out 0).trans rfl
        have hcz32_1 : wc.cell? ⟨gb387, 1, none⟩ = some (.int .i64 a0_1) := (blk_cell BK387.out 1).trans rfl
        have hcz32_2 : wc.cell? ⟨gb387, 2, none⟩ = some (.string a0_2) := (blk_cell BK387.out 2).trans rfl
        have hfz32_0 := blk_frozen BK387.out 0
        have hfz32_1 := blk_frozen BK387.out 1
        have hfz32_2 := blk_frozen BK387.out 2
        go_wp2_with (first | (go_at_call 122; (with_reducible refine (peristyleref1_within.calls a0_1 (-1000000000000000) 1000000000000000 t391 _ A31.out).mono ?_); rintro e w' ⟨rfl, ⟨nd, rfl⟩⟩))
        go_meet
        case rel => exact ⟨_, (!t391), (by rfl), H', ⟨by have := HJ3.out; omega⟩, ⟨by (with_reducible repeat (refine blk_drewN ?_ _)); exact BK387.out⟩, ⟨by repeat ((with_reducible first | exact HB.out | apply pw_below_drewN ))⟩⟩
       ·rw [if_neg c30] at H
        have c30b0 : (a0_0 == 2) = false := beq_eq_false_iff_ne.mpr c30
        have c30b1 : (a0_0 != 2) = true := bne_iff_ne.mpr c30
        have H' := Ak H
        clear H
        have hcz33_0 : wc.cell? ⟨gb387, 0, none⟩ = some (.int .i64 a0_0) := (blk_cell BK387.out 0).trans rfl
        have hcz33_1 : wc.cell? ⟨gb387, 1, none⟩ = some (.int .i64 a0_1) := (blk_cell BK387.out 1).trans rfl
        have hcz33_2 : wc.cell? ⟨gb387, 2, none⟩ = some (.string a0_2) := (blk_cell BK387.out 2).trans rfl
        have hfz33_0 := blk_frozen BK387.out 0
        have hfz33_1 := blk_frozen BK387.out 1
        have hfz33_2 := blk_frozen BK387.out 2
        go_wp2
        go_meet
        case rel => exact ⟨_, (false), (by rfl), H', ⟨by have := HJ3.out; omega⟩, ⟨by exact BK387.out⟩, ⟨by exact HB.out⟩⟩
     case rest =>
      clear HC21
      obtain ⟨kq, x50_20, rfl, HA, HJ20, BK387, HB⟩ := hcut
      cases kq with
      | zero => exact absurd HA.out (by simp [peristyleref1_CheckValue.j1])
      | succ kj20 =>
       have H := HA.out
       clear HA
       simp only [peristyleref1_CheckValue.j1] at H
       by_cases c34 : x50_20 = true
       ·subst c34
        replace H : (some 1) = some r := by rw [if_pos rfl] at H; exact H
        obtain rfl := Option.some.inj H
        go_wp2
        go_ret
        exact ⟨by rfl, by exact HB.out⟩
       ·replace c34 := Bool.eq_false_iff.mpr c34
        subst c34
        replace H : (if (a0_2.size : Int) > 200 then (some 2) else (peristyleref1_CheckValue.l0 kj20 0 a0_0 a0_1 a0_2)) = some r := by rw [if_neg (show ¬ (false = true) by decide)] at H; exact H
        by_cases c35 : (a0_2.size : Int) > 200
        ·rw [if_pos c35] at H
         have c35b0 : decide (200 < (a0_2.size : Int)) = true := decide_eq_true c35
         have c35b1 : decide (200 < a0_2.size) = true := decide_eq_true (by omega)
         clear c35
         obtain rfl := Option.some.inj H
         have hcz36_0 : wc.cell? ⟨gb387, 0, none⟩ = some (.int .i64 a0_0) := (blk_cell BK387.out 0).trans rfl
         have hcz36_1 : wc.cell? ⟨gb387, 1, none⟩ = some (.int .i64 a0_1) := (blk_cell BK387.out 1).trans rfl
         have hcz36_2 : wc.cell? ⟨gb387, 2, none⟩ = some (.string a0_2) := (blk_cell BK387.out 2).trans rfl
         have hfz36_0 := blk_frozen BK387.out 0
         have hfz36_1 := blk_frozen BK387.out 1
         have hfz36_2 := blk_frozen BK387.out 2
         go_wp2
         go_ret
         exact ⟨by rfl, by exact HB.out⟩
        ·rw [if_neg c35] at H
         have c35b0 : decide (200 < (a0_2.size : Int)) = false := decide_eq_false c35
         have c35b1 : decide (200 < a0_2.size) = false := decide_eq_false (by omega)
         clear c35
         have H' := Ak H
         clear H
         have hcz37_0 : wc.cell? ⟨gb387, 0, none⟩ = some (.int .i64 a0_0) := (blk_cell BK387.out 0).trans rfl
         have hcz37_1 : wc.cell? ⟨gb387, 1, none⟩ = some (.int .i64 a0_1) := (blk_cell BK387.out 1).trans rfl
         have hcz37_2 : wc.cell? ⟨gb387, 2, none⟩ = some (.string a0_2) := (blk_cell BK387.out 2).trans rfl
         have hfz37_0 := blk_frozen BK387.out 0
         have hfz37_1 := blk_frozen BK387.out 1
         have hfz37_2 := blk_frozen BK387.out 2
         go_wp2
         go_loopg [3] kj20 (fun kq v3 w' => ∃ (x3_3 : Int), v3 = .int .i64 x3_3 ∧ Aside0 (peristyleref1_CheckValue.l0 kq x3_3 a0_0 a0_1 a0_2 = some r) ∧ Aside0 (kq ≤ kj20) ∧ Aside0 (w'.heap[gb387]? = some (.cells #[.int .i64 a0_0, .int .i64 a0_1, .string a0_2] 101 (0, 0))) ∧ Aside0 (Below w.heap.size w w'))
         case atStart => exact ⟨(0), (by rfl), H', ⟨Nat.le_refl _⟩, ⟨by exact BK387.out⟩, ⟨by exact HB.out⟩⟩
         case round =>
          clear H'
          try clear c35b0
          try clear c35b1
          try clear hcz37_0
          try clear hcz37_1
          try clear hcz37_2
          try clear hfz37_0
          try clear hfz37_1
          try clear hfz37_2
          obtain ⟨x3_3, rfl, HA, HK3, BK387, HB⟩ := hrel
          cases gk with
          | zero => exact absurd HA.out (by simp [peristyleref1_CheckValue.l0])
          | succ k3 =>
           have H := HA.out
           clear HA
           simp only [peristyleref1_CheckValue.l0] at H
           by_cases c38 : x3_3 < (a0_2.size : Int)
           ·rw [if_pos c38] at H
            have c38b0 : decide (x3_3 < (a0_2.size : Int)) = true := decide_eq_true c38
            clear c38
            by_cases c39 : 0 ≤ x3_3
            ·rw [if_pos c39] at H
             have c39b0 : decide (0 ≤ x3_3) = true := decide_eq_true c39
             clear c39
             by_cases c41 : (bt a0_2 x3_3) < 32
             ·rw [if_pos c41] at H
              have c41b0 : decide ((bt a0_2 x3_3) < 32) = true := decide_eq_true c41
              clear c41
              obtain rfl := Option.some.inj H
              have hcz42_0 : wr.cell? ⟨gb387, 0, none⟩ = some (.int .i64 a0_0) := (blk_cell BK387.out 0).trans rfl
              have hcz42_1 : wr.cell? ⟨gb387, 1, none⟩ = some (.int .i64 a0_1) := (blk_cell BK387.out 1).trans rfl
              have hcz42_2 : wr.cell? ⟨gb387, 2, none⟩ = some (.string a0_2) := (blk_cell BK387.out 2).trans rfl
              have hfz42_0 := blk_frozen BK387.out 0
              have hfz42_1 := blk_frozen BK387.out 1
              have hfz42_2 := blk_frozen BK387.out 2
              have p40 : 0 ≤ (x3_3 : Int) := of_decide_eq_true (by (with_reducible assumption))
              have q40 : x3_3 < (a0_2.size : Int) := of_decide_eq_true (by (with_reducible assumption))
              have hx40 := bt_at a0_2 x3_3
              replace p40 := eq_true p40
              replace q40 := eq_true q40
              go_wp2
              go_ret
              exact ⟨by rfl, by exact HB.out⟩
             ·rw [if_neg c41] at H
              have c41b0 : decide ((bt a0_2 x3_3) < 32) = false := decide_eq_false c41
              clear c41
              by_cases c44 : (bt a0_2 x3_3) > 126
              ·rw [if_pos c44] at H
               have c44b0 : decide (126 < (bt a0_2 x3_3)) = true := decide_eq_true c44
               clear c44
               obtain rfl := Option.some.inj H
               have hcz45_0 : wr.cell? ⟨gb387, 0, none⟩ = some (.int .i64 a0_0) := (blk_cell BK387.out 0).trans rfl
               have hcz45_1 : wr.cell? ⟨gb387, 1, none⟩ = some (.int .i64 a0_1) := (blk_cell BK387.out 1).trans rfl
               have hcz45_2 : wr.cell? ⟨gb387, 2, none⟩ = some (.string a0_2) := (blk_cell BK387.out 2).trans rfl
               have hfz45_0 := blk_frozen BK387.out 0
               have hfz45_1 := blk_frozen BK387.out 1
               have hfz45_2 := blk_frozen BK387.out 2
               have p40 : 0 ≤ (x3_3 : Int) := of_decide_eq_true (by (with_reducible assumption))
               have q40 : x3_3 < (a0_2.size : Int) := of_decide_eq_true (by (with_reducible assumption))
               have hx40 := bt_at a0_2 x3_3
               replace p40 := eq_true p40
               replace q40 := eq_true q40
               have p43 : 0 ≤ (x3_3 : Int) := of_decide_eq_true (by (with_reducible assumption))
               have q43 : x3_3 < (a0_2.size : Int) := of_decide_eq_true (by (with_reducible assumption))
               have hx43 := bt_at a0_2 x3_3
               replace p43 := eq_true p43
               replace q43 := eq_true q43
               go_wp2
               go_ret
               exact ⟨by rfl, by exact HB.out⟩
              ·rw [if_neg c44] at H
               have c44b0 : decide (126 < (bt a0_2 x3_3)) = false := decide_eq_false c44
               clear c44
               have H' := Ak H
               clear H
               have hcz46_0 : wr.cell? ⟨gb387, 0, none⟩ = some (.int .i64 a0_0) := (blk_cell BK387.out 0).trans rfl
               have hcz46_1 : wr.cell? ⟨gb387, 1, none⟩ = some (.int .i64 a0_1) := (blk_cell BK387.out 1).trans rfl
               have hcz46_2 : wr.cell? ⟨gb387, 2, none⟩ = some (.string a0_2) := (blk_cell BK387.out 2).trans rfl
               have hfz46_0 := blk_frozen BK387.out 0
               have hfz46_1 := blk_frozen BK387.out 1
               have hfz46_2 := blk_frozen BK387.out 2
               have p40 : 0 ≤ (x3_3 : Int) := of_decide_eq_true (by (with_reducible assumption))
               have q40 : x3_3 < (a0_2.size : Int) := of_decide_eq_true (by (with_reducible assumption))
               have hx40 := bt_at a0_2 x3_3
               replace p40 := eq_true p40
               replace q40 := eq_true q40
               have p43 : 0 ≤ (x3_3 : Int) := of_decide_eq_true (by (with_reducible assumption))
               have q43 : x3_3 < (a0_2.size : Int) := of_decide_eq_true (by (with_reducible assumption))
               have hx43 := bt_at a0_2 x3_3
               replace p43 := eq_true p43
               replace q43 := eq_true q43
               go_wp2
               go_roundg k3
               case measure => have := HJ3.out; have := HJ20.out; have := HK3.out; omega
               case rel => exact ⟨(wrap64 (x3_3 + 1)), (by rfl), H', ⟨by have := HJ3.out; have := HJ20.out; have := HK3.out; omega⟩, ⟨by exact BK387.out⟩, ⟨by exact HB.out⟩⟩
            ·rw [if_neg c39] at H
             exact absurd H (by simp)
           ·rw [if_neg c38] at H
            have c38b0 : decide (x3_3 < (a0_2.size : Int)) = false := decide_eq_false c38
            clear c38
            obtain rfl := Option.some.inj H
            have hcz47_0 : wr.cell? ⟨gb387, 0, none⟩ = some (.int .i64 a0_0) := (blk_cell BK387.out 0).trans rfl
            have hcz47_1 : wr.cell? ⟨gb387, 1, none⟩ = some (.int .i64 a0_1) := (blk_cell BK387.out 1).trans rfl
            have hcz47_2 : wr.cell? ⟨gb387, 2, none⟩ = some (.string a0_2) := (blk_cell BK387.out 2).trans rfl
            have hfz47_0 := blk_frozen BK387.out 0
            have hfz47_1 := blk_frozen BK387.out 1
            have hfz47_2 := blk_frozen BK387.out 2
            go_wp2
            go_ret
            exact ⟨by rfl, by exact HB.out⟩
 ·replace c3 := Bool.eq_false_iff.mpr c3
  subst c3
  replace H : (some 4) = some r := by rw [if_neg (show ¬ (false = true) by decide)] at H; exact H
  obtain rfl := Option.some.inj H
  go_enter Try.func100, Try.ntmps100
  go_wp2_with (first | ((with_reducible refine gate_dst (N := 1) rfl ?_); refine box_event ?hg (N := 1) ?hd (cs := #[.int .i64 a0_0, .int .i64 a0_1, .string a0_2]) (t := 101) ?hr ?_; (case hd => rfl); (case hg => rfl); (case hr => (go_simp; done)); intro gb387 hg w48 hbox hb; have n0_ := Ak (below_step (by exact HB.out) hb); have n1_ := Ak (hbox); have n2_ := Ak ((by rw [hg]; exact (below_size (by exact HB.out)) : w.heap.size ≤ gb387)); have n3_ := Ak ((by rw [hg]; exact (below_size (by exact HB.out)) : w.heap.size ≤ gb387)); clear HB; have HB := n0_; have BK387 := n1_; have GW387 := n2_; have GE387 := n3_; clear n0_ n1_ n2_ n3_ hb hbox hg; have hcz49_0 : w48.cell? ⟨gb387, 0, none⟩ = some (.int .i64 a0_0) := (blk_cell BK387.out 0).trans rfl; have hcz49_1 : w48.cell? ⟨gb387, 1, none⟩ = some (.int .i64 a0_1) := (blk_cell BK387.out 1).trans rfl; have hcz49_2 : w48.cell? ⟨gb387, 2, none⟩ = some (.string a0_2) := (blk_cell BK387.out 2).trans rfl; have hfz49_0 := blk_frozen BK387.out 0; have hfz49_1 := blk_frozen BK387.out 1; have hfz49_2 := blk_frozen BK387.out 2) | ((with_reducible refine gate_callee (f := 122) rfl ?_); refine goesL_ (some 6) rfl rfl Try.func122 (by kernel_rfl) rfl #[.int .i64 a0_0, .int .i64 0, .int .i64 3] rfl (by (try simp only [lm]); rfl) ?_; (with_reducible refine (peristyleref1_within.calls a0_0 0 3 false _ A2.out).mono ?_); rintro e w' ⟨rfl, ⟨nd, rfl⟩⟩; refine ⟨_, rfl, ?_⟩))
  go_ret
  exact ⟨by rfl, by repeat ((with_reducible first | exact HB.out | apply pw_below_drewN ))⟩
def q_checkTexts.l0 : Nat → List ByteArray → Int → Int → Option (Int)
 | 0, _, _, _ => none
 | k + 1, x9, x10, x11 => if x11 < x10 then (if 0 ≤ x11 then (if x11 < (x9.length : Int) then ((peristyleref1_CheckValue.f k 3 0 (rdOf ByteArray.empty x9 x11)).bind fun t393 => (if t393 = 0 then (q_checkTexts.l0 k x9 x10 (wrap64 (x11 + 1))) else (some t393))) else (none)) else (none)) else (some 0)
def q_checkTexts.f (k : Nat) (l0 : List ByteArray) : Option (Int) := if (l0.length : Int) > 2000 then (some 2) else (q_checkTexts.l0 k l0 (l0.length : Int) 0)
theorem q_checkTexts.mono_l : ∀ k, (∀ y0 y1 y2, LeO (q_checkTexts.l0 k y0 y1 y2) (q_checkTexts.l0 (k + 1) y0 y1 y2))
 | 0 => fun _ _ _ r h => by simp [q_checkTexts.l0] at h
 | k + 1 => by
  have ih0 := q_checkTexts.mono_l k
  ·intro y0 y1 y2
   unfold q_checkTexts.l0
   repeat' first
   | (with_reducible exact ih0 _ _ _)
   | (with_reducible exact peristyleref1_CheckValue.mono _ _ _ _)
   | (with_reducible exact LeO.refl _)
   | (with_reducible refine LeO.ite ?_ ?_)
   | (with_reducible refine LeO.bind ?_ (fun _ => ?_))
theorem q_checkTexts.mono : ∀ a0 k, LeO (q_checkTexts.f k a0) (q_checkTexts.f (k + 1) a0) := by
 intro a0 k
 have ih0 := q_checkTexts.mono_l k
 unfold q_checkTexts.f
 repeat' first
  | (with_reducible exact ih0 _ _ _)
  | (with_reducible exact LeO.refl _)
  | (with_reducible refine LeO.ite ?_ ?_)
set_option maxHeartbeats 8000000 in
set_option maxRecDepth 100000 in
theorem q_checkTexts.calls (k : Nat) (A0 : Option Addr) (c0 : Nat) (l0 : List ByteArray) (r : Int) (w : World) (hr0 : Kd.C Kd.string w A0 l0.length l0) (hc0 : l0.length ≤ c0) (h : q_checkTexts.f k l0 = some r) :
 Calls Try.prog 71 #[.slice A0 l0.length c0] w fun e w' => e = .returned (.int .i64 r) ∧ Below w.heap.size w w' := by
 have hu101 := Try.underlying101
 have HR0 := Ak hr0
 have HC0 := Ak hc0
 clear hr0 hc0
 have HB := Ak (Below.refl w.heap.size w)
 have H : (if (l0.length : Int) > 2000 then (some 2) else (q_checkTexts.l0 k l0 (l0.length : Int) 0)) = some r := h
 clear h
 by_cases c2 : (l0.length : Int) > 2000
 ·rw [if_pos c2] at H
  have c2b0 : decide (2000 < (l0.length : Int)) = true := decide_eq_true c2
  have c2b1 : decide (2000 < l0.length) = true := decide_eq_true (by omega)
  clear c2
  obtain rfl := Option.some.inj H
  go_enter Try.func71, Try.ntmps71
  go_wp2
  go_ret
  exact ⟨by rfl, by exact HB.out⟩
 ·rw [if_neg c2] at H
  have c2b0 : decide (2000 < (l0.length : Int)) = false := decide_eq_false c2
  have c2b1 : decide (2000 < l0.length) = false := decide_eq_false (by omega)
  clear c2
  have H' := Ak H
  clear H
  go_enter Try.func71, Try.ntmps71
  go_wp2
  go_loopg [11] k (fun kq v11 w' => ∃ (x11_1 : Int), v11 = .int .i64 x11_1 ∧ Aside0 (q_checkTexts.l0 kq l0 (l0.length : Int) x11_1 = some r) ∧ Aside0 (kq ≤ k) ∧ Aside0 (Below w.heap.size w w'))
  case atStart => exact ⟨(0), (by rfl), H', ⟨Nat.le_refl _⟩, ⟨by exact HB.out⟩⟩
  case round =>
   clear H'
   try clear c2b0
   try clear c2b1
   obtain ⟨x11_1, rfl, HA, HK1, HB⟩ := hrel
   cases gk with
   | zero => exact absurd HA.out (by simp [q_checkTexts.l0])
   | succ k1 =>
    have H := HA.out
    clear HA
    simp only [q_checkTexts.l0] at H
    by_cases c3 : x11_1 < (l0.length : Int)
    ·rw [if_pos c3] at H
     have c3b0 : decide (x11_1 < (l0.length : Int)) = true := decide_eq_true c3
     clear c3
     by_cases c4 : 0 ≤ x11_1
     ·rw [if_pos c4] at H
      have c4b0 : decide (0 ≤ x11_1) = true := decide_eq_true c4
      clear c4
      by_cases c5 : x11_1 < (l0.length : Int)
      ·rw [if_pos c5] at H
       have c5b0 : decide (x11_1 < (l0.length : Int)) = true := decide_eq_true c5
       clear c5
       replace H := Option.bind_eq_some_iff.mp H
       obtain ⟨t393, A60, H⟩ := H
       replace H : (if t393 = 0 then (q_checkTexts.l0 k1 l0 (l0.length : Int) (wrap64 (x11_1 + 1))) else (some t393)) = some r := H
       have A6 := Ak A60
       clear A60
       by_cases c7 : t393 = 0
       ·rw [if_pos c7] at H
        have c7b0 : (t393 == 0) = true := beq_iff_eq.mpr c7
        have c7b1 : (t393 != 0) = false := bne_eq_false_iff_eq.mpr c7
        clear c7
        have H' := Ak H
        clear H
        have p392 : 0 ≤ (x11_1 : Int) := of_decide_eq_true (by (with_reducible assumption))
        have q392 : x11_1 < (l0.length : Int) := of_decide_eq_true (by (with_reducible assumption))
        obtain ⟨ad392, e392, hx392_0⟩ := Kd.at_string HR0.out x11_1 p392 q392
        cases e392
        replace hx392_0 := (HB.out.cell (World.block_lt_of_cell? w _ hx392_0)).trans hx392_0
        replace p392 := eq_true p392
        replace q392 := eq_true q392
        go_wp2_with (first | ((with_reducible refine gate_callee (f := 100) rfl ?_); refine goesL_ (some 17) rfl rfl Try.func100 (by kernel_rfl) rfl #[.agg #[.int .i64 3, .int .i64 0, .string (rdOf ByteArray.empty l0 x11_1)]] rfl (by (try simp only [lm]); rfl) ?_; (with_reducible refine (peristyleref1_CheckValue.calls k1 3 0 (rdOf ByteArray.empty l0 x11_1) t393 _ A6.out).mono ?_); rintro e w8 ⟨rfl, hb⟩; refine ⟨_, rfl, ?_⟩; have n0_ := Ak (below_step (by exact HB.out) hb); clear HB; have HB := n0_; clear n0_; (try clear hb); (try clear hi)))
        go_roundg k1
        case measure => have := HK1.out; omega
        case rel => exact ⟨(wrap64 (x11_1 + 1)), (by rfl), H', ⟨by have := HK1.out; omega⟩, ⟨by exact HB.out⟩⟩
       ·rw [if_neg c7] at H
        have c7b0 : (t393 == 0) = false := beq_eq_false_iff_ne.mpr c7
        have c7b1 : (t393 != 0) = true := bne_iff_ne.mpr c7
        obtain rfl := Option.some.inj H
        have p392 : 0 ≤ (x11_1 : Int) := of_decide_eq_true (by (with_reducible assumption))
        have q392 : x11_1 < (l0.length : Int) := of_decide_eq_true (by (with_reducible assumption))
        obtain ⟨ad392, e392, hx392_0⟩ := Kd.at_string HR0.out x11_1 p392 q392
        cases e392
        replace hx392_0 := (HB.out.cell (World.block_lt_of_cell? w _ hx392_0)).trans hx392_0
        replace p392 := eq_true p392
        replace q392 := eq_true q392
        go_wp2_with (first | ((with_reducible refine gate_callee (f := 100) rfl ?_); refine goesL_ (some 17) rfl rfl Try.func100 (by kernel_rfl) rfl #[.agg #[.int .i64 3, .int .i64 0, .string (rdOf ByteArray.empty l0 x11_1)]] rfl (by (try simp only [lm]); rfl) ?_; (with_reducible refine (peristyleref1_CheckValue.calls k1 3 0 (rdOf ByteArray.empty l0 x11_1) t393 _ A6.out).mono ?_); rintro e w9 ⟨rfl, hb⟩; refine ⟨_, rfl, ?_⟩; have n0_ := Ak (below_step (by exact HB.out) hb); clear HB; have HB := n0_; clear n0_; (try clear hb); (try clear hi)))
        go_ret
        exact ⟨by rfl, by exact HB.out⟩
      ·rw [if_neg c5] at H
       exact absurd H (by simp)
     ·rw [if_neg c4] at H
      exact absurd H (by simp)
    ·rw [if_neg c3] at H
     have c3b0 : decide (x11_1 < (l0.length : Int)) = false := decide_eq_false c3
     clear c3
     obtain rfl := Option.some.inj H
     go_wp2
     go_ret
     exact ⟨by rfl, by exact HB.out⟩
def q_count.l0 : Nat → Int → List Int → Option (List Int)
 | 0, _, _ => none
 | k + 1, x0, x3 => if x0 > 127 then (if x3.length < 140737488355328 then (q_count.l0 k (x0 / 128) (x3 ++ [(Go.bits .or .i64 (Go.bits .and .i64 x0 127) 128) % 256])) else (none)) else (if x3.length < 140737488355328 then (some (x3 ++ [(x0) % 256])) else (none))
def q_count.f (k : Nat) (a0 : Int) : Option (List Int) := q_count.l0 k a0 ([] : List Int)
theorem q_count.mono_l : ∀ k, (∀ y0 y1, LeO (q_count.l0 k y0 y1) (q_count.l0 (k + 1) y0 y1))
 | 0 => fun _ _ r h => by simp [q_count.l0] at h
 | k + 1 => by
  have ih0 := q_count.mono_l k
  ·intro y0 y1
   unfold q_count.l0
   repeat' first
   | (with_reducible exact ih0 _ _)
   | (with_reducible exact LeO.refl _)
   | (with_reducible refine LeO.ite ?_ ?_)
theorem q_count.mono : ∀ a0 k, LeO (q_count.f k a0) (q_count.f (k + 1) a0) := by
 intro a0 k
 have ih0 := q_count.mono_l k
 unfold q_count.f
 repeat' first
  | (with_reducible exact ih0 _ _)
set_option maxHeartbeats 8000000 in
set_option maxRecDepth 100000 in
theorem q_count.calls (k : Nat) (a0 : Int) (r : List Int) (w : World) (h : q_count.f k a0 = some r) :
 Calls Try.prog 55 #[.int .i64 a0] w fun e w' => ∃ v0_ : Value, e = .returned (v0_) ∧ Kd.R (Kd.int .u8) 5 w' w.heap.size (fun _ => True) v0_ r ∧ Below w.heap.size w w' := by
 have HB := Ak (Below.refl w.heap.size w)
 have H : (q_count.l0 k a0 ([] : List Int)) = some r := h
 clear h
 have H' := Ak H
 clear H
 go_enter Try.func55, Try.ntmps55
 go_wp2
 go_loopg [0, 3] k (fun kq v0 v3 w' => ∃ (x0_1 : Int) (x3_1 : List Int), v0 = .int .i64 x0_1 ∧ Aside0 (q_count.l0 kq x0_1 x3_1 = some r) ∧ Aside0 (kq ≤ k) ∧ Aside0 (Kd.R (Kd.int .u8) 5 w' w.heap.size (fun _ => True) v3 x3_1) ∧ Aside0 (Below w.heap.size w w'))
 case atStart => exact ⟨(a0), (([] : List Int)), (by rfl), H', ⟨Nat.le_refl _⟩, ⟨by exact Kd.R_nil _ _ _ _ _⟩, ⟨by exact HB.out⟩⟩
 case round =>
  clear H'
  obtain ⟨x0_1, x3_1, rfl, HA, HK1, HO_3, HB⟩ := hrel
  cases gk with
  | zero => exact absurd HA.out (by simp [q_count.l0])
  | succ k1 =>
   have H := HA.out
   clear HA
   simp only [q_count.l0] at H
   by_cases c2 : x0_1 > 127
   ·rw [if_pos c2] at H
    have c2b0 : decide (127 < x0_1) = true := decide_eq_true c2
    clear c2
    by_cases c3 : x3_1.length < 140737488355328
    ·rw [if_pos c3] at H
     have LMc3 := Ak c3
     clear c3
     obtain ⟨y394, hy394⟩ : ∃ y_ : List Int, y_ = (x3_1 ++ [(Go.bits .or .i64 (Go.bits .and .i64 x0_1 127) 128) % 256]) := ⟨_, rfl⟩
     replace H : (q_count.l0 k1 (x0_1 / 128) y394) = some r := by (rw [hy394]; with_reducible exact H)
     have Ny394 := Ak hy394
     clear hy394
     have H' := Ak H
     clear H
     go_wp2_with (first | ((with_reducible refine gate_builtin (b := .append) (xs := #[.tmp 6, .tmp 11]) rfl ?_); at_builtin; refine Kd.R_append (Kd.int .u8) (w0 := w) w.heap.size rfl (.tmp 6) (.tmp 11) 27 5 (.int .u8 0) 1 rfl Try.underlying27 info5 rfl (by decide) (by omega) u3 x3_1 ((Go.bits .or .i64 (Go.bits .and .i64 x0_1 127) 128) % 256) [.int .u8 ((Go.bits .or .i64 (Go.bits .and .i64 x0_1 127) 128) % 256)] (fun _ => True) (fun _ => False) rfl rfl ?aP (fun _ hk => hk.elim) ?aF ?aO ?aB ?aS ?aL ?_; (case aP => exact rfl); (case aB => exact (by exact HB.out)); (case aF => exact (fun _ _ => trivial)); (case aO => exact (by exact HO_3.out)); (case aS => exact (below_size (by exact HB.out))); (case aL => have := LMc3.out; omega); intro v395 w4 ho hb hg hat; rw [← Ny394.out] at ho; have n0_ := Ak (hb); have n1_ := Ak (ho); clear HB HO_3; have HB := n0_; have HO396 := n1_; clear n0_ n1_ ho hb hg hat))
     go_roundg k1
     case measure => have := HK1.out; omega
     case rel => exact ⟨(x0_1 / 128), (y394), (by rfl), H', ⟨by have := HK1.out; omega⟩, ⟨by exact HO396.out⟩, ⟨by exact HB.out⟩⟩
    ·rw [if_neg c3] at H
     exact absurd H (by simp)
   ·rw [if_neg c2] at H
    have c2b0 : decide (127 < x0_1) = false := decide_eq_false c2
    clear c2
    by_cases c5 : x3_1.length < 140737488355328
    ·rw [if_pos c5] at H
     have LMc5 := Ak c5
     clear c5
     obtain ⟨y397, hy397⟩ : ∃ y_ : List Int, y_ = (x3_1 ++ [(x0_1) % 256]) := ⟨_, rfl⟩
     replace H : (some y397) = some r := by (rw [hy397]; with_reducible exact H)
     have Ny397 := Ak hy397
     clear hy397
     obtain rfl := Option.some.inj H
     go_wp2_with (first | ((with_reducible refine gate_builtin (b := .append) (xs := #[.tmp 15, .tmp 18]) rfl ?_); at_builtin; refine Kd.R_append (Kd.int .u8) (w0 := w) w.heap.size rfl (.tmp 15) (.tmp 18) 27 5 (.int .u8 0) 1 rfl Try.underlying27 info5 rfl (by decide) (by omega) u3 x3_1 ((x0_1) % 256) [.int .u8 ((x0_1) % 256)] (fun _ => True) (fun _ => False) rfl rfl ?aP (fun _ hk => hk.elim) ?aF ?aO ?aB ?aS ?aL ?_; (case aP => exact rfl); (case aB => exact (by exact HB.out)); (case aF => exact (fun _ _ => trivial)); (case aO => exact (by exact HO_3.out)); (case aS => exact (below_size (by exact HB.out))); (case aL => have := LMc5.out; omega); intro v398 w6 ho hb hg hat; rw [← Ny397.out] at ho; have n0_ := Ak (hb); have n1_ := Ak (ho); clear HB HO_3; have HB := n0_; have HO399 := n1_; clear n0_ n1_ ho hb hg hat))
     go_ret
     exact ⟨_, by rfl, by exact HO399.out, by exact HB.out⟩
    ·rw [if_neg c5] at H
     exact absurd H (by simp)
def q_alike.l0 : Nat → ByteArray → ByteArray → Int → Option (Int)
 | 0, _, _, _ => none
 | k + 1, x0, x1, x5 => if x5 < (x0.size : Int) then (if x5 < (x1.size : Int) then (if 0 ≤ x5 then (if (bt x0 x5) = (bt x1 x5) then (q_alike.l0 k x0 x1 (wrap64 (x5 + 1))) else (some x5)) else (none)) else (some x5)) else (some x5)
def q_alike.f (k : Nat) (a0 : ByteArray) (a1 : ByteArray) : Option (Int) := q_alike.l0 k a0 a1 0
theorem q_alike.mono_l : ∀ k, (∀ y0 y1 y2, LeO (q_alike.l0 k y0 y1 y2) (q_alike.l0 (k + 1) y0 y1 y2))
 | 0 => fun _ _ _ r h => by simp [q_alike.l0] at h
 | k + 1 => by
  have ih0 := q_alike.mono_l k
  ·intro y0 y1 y2
   unfold q_alike.l0
   repeat' first
   | (with_reducible exact ih0 _ _ _)
   | (with_reducible exact LeO.refl _)
   | (with_reducible refine LeO.ite ?_ ?_)
theorem q_alike.mono : ∀ a0 a1 k, LeO (q_alike.f k a0 a1) (q_alike.f (k + 1) a0 a1) := by
 intro a0 a1 k
 have ih0 := q_alike.mono_l k
 unfold q_alike.f
 repeat' first
  | (with_reducible exact ih0 _ _ _)
set_option maxHeartbeats 8000000 in
set_option maxRecDepth 100000 in
theorem q_alike.calls (k : Nat) (a0 : ByteArray) (a1 : ByteArray) (r : Int) (w : World) (h : q_alike.f k a0 a1 = some r) :
 Calls Try.prog 101 #[.string a0, .string a1] w fun e w' => e = .returned (.int .i64 r) ∧ Drawn0 w w' := by
 have H : (q_alike.l0 k a0 a1 0) = some r := h
 clear h
 have H' := Ak H
 clear H
 go_enter Try.func101, Try.ntmps101
 go_wp2
 repeat (go_quiet (fail); try go_wp2)
 go_loopg [5] k (fun kq v5 w' => ∃ (x5_1 : Int), v5 = .int .i64 x5_1 ∧ Aside0 (q_alike.l0 kq a0 a1 x5_1 = some r) ∧ Aside0 (kq ≤ k) ∧ Drawn0 w w')
 case atStart => exact ⟨(0), (by rfl), H', ⟨Nat.le_refl _⟩, by repeat (exact Drawn0.refl _)⟩
 case round =>
  clear H'
  obtain ⟨x5_1, rfl, HA, HK1, ⟨m1, rfl⟩⟩ := hrel
  cases gk with
  | zero => exact absurd HA.out (by simp [q_alike.l0])
  | succ k1 =>
   have H := HA.out
   clear HA
   simp only [q_alike.l0] at H
   by_cases c3 : x5_1 < (a0.size : Int)
   ·rw [if_pos c3] at H
    have c3b0 : decide (x5_1 < (a0.size : Int)) = true := decide_eq_true c3
    clear c3
    by_cases c4 : x5_1 < (a1.size : Int)
    ·rw [if_pos c4] at H
     have c4b0 : decide (x5_1 < (a1.size : Int)) = true := decide_eq_true c4
     clear c4
     by_cases c5 : 0 ≤ x5_1
     ·rw [if_pos c5] at H
      have c5b0 : decide (0 ≤ x5_1) = true := decide_eq_true c5
      clear c5
      by_cases c8 : (bt a0 x5_1) = (bt a1 x5_1)
      ·rw [if_pos c8] at H
       have c8b0 : ((bt a0 x5_1) == (bt a1 x5_1)) = true := beq_iff_eq.mpr c8
       have c8b1 : ((bt a0 x5_1) != (bt a1 x5_1)) = false := bne_eq_false_iff_eq.mpr c8
       clear c8
       have H' := Ak H
       clear H
       have p6 : 0 ≤ (x5_1 : Int) := of_decide_eq_true (by (with_reducible assumption))
       have q6 : x5_1 < (a0.size : Int) := of_decide_eq_true (by (with_reducible assumption))
       have hx6 := bt_at a0 x5_1
       replace p6 := eq_true p6
       replace q6 := eq_true q6
       have p7 : 0 ≤ (x5_1 : Int) := of_decide_eq_true (by (with_reducible assumption))
       have q7 : x5_1 < (a1.size : Int) := of_decide_eq_true (by (with_reducible assumption))
       have hx7 := bt_at a1 x5_1
       replace p7 := eq_true p7
       replace q7 := eq_true q7
       go_wp2
       repeat (go_quiet (fail); try go_wp2)
       go_roundg k1
       case measure => have := HK1.out; omega
       case rel => exact ⟨(wrap64 (x5_1 + 1)), (by rfl), H', ⟨by have := HK1.out; omega⟩, by repeat (first | exact Drawn0.refl _ | apply Drawn0.step)⟩
      ·rw [if_neg c8] at H
       have c8b0 : ((bt a0 x5_1) == (bt a1 x5_1)) = false := beq_eq_false_iff_ne.mpr c8
       have c8b1 : ((bt a0 x5_1) != (bt a1 x5_1)) = true := bne_iff_ne.mpr c8
       obtain rfl := Option.some.inj H
       have p6 : 0 ≤ (x5_1 : Int) := of_decide_eq_true (by (with_reducible assumption))
       have q6 : x5_1 < (a0.size : Int) := of_decide_eq_true (by (with_reducible assumption))
       have hx6 := bt_at a0 x5_1
       replace p6 := eq_true p6
       replace q6 := eq_true q6
       have p7 : 0 ≤ (x5_1 : Int) := of_decide_eq_true (by (with_reducible assumption))
       have q7 : x5_1 < (a1.size : Int) := of_decide_eq_true (by (with_reducible assumption))
       have hx7 := bt_at a1 x5_1
       replace p7 := eq_true p7
       replace q7 := eq_true q7
       go_wp2
       repeat (go_quiet (fail); try go_wp2)
       go_ret
       exact ⟨by rfl, by repeat (first | exact Drawn0.refl _ | apply Drawn0.step)⟩
     ·rw [if_neg c5] at H
      exact absurd H (by simp)
    ·rw [if_neg c4] at H
     have c4b0 : decide (x5_1 < (a1.size : Int)) = false := decide_eq_false c4
     clear c4
     obtain rfl := Option.some.inj H
     go_wp2
     repeat (go_quiet (fail); try go_wp2)
     go_ret
     exact ⟨by rfl, by repeat (first | exact Drawn0.refl _ | apply Drawn0.step)⟩
   ·rw [if_neg c3] at H
    have c3b0 : decide (x5_1 < (a0.size : Int)) = false := decide_eq_false c3
    clear c3
    obtain rfl := Option.some.inj H
    go_wp2
    repeat (go_quiet (fail); try go_wp2)
    go_ret
    exact ⟨by rfl, by repeat (first | exact Drawn0.refl _ | apply Drawn0.step)⟩
def s_Indext.l0 : Nat → List ByteArray → ByteArray → Int → Int → Option (Int)
 | 0, _, _, _, _ => none
 | k + 1, x0, x1, x7, x8 => if x8 < x7 then (if 0 ≤ x8 then (if x8 < (x0.length : Int) then (if x1.toList = (rdOf ByteArray.empty x0 x8).toList then (some x8) else (s_Indext.l0 k x0 x1 x7 (wrap64 (x8 + 1)))) else (none)) else (none)) else (some (-1))
def s_Indext.f (k : Nat) (l0 : List ByteArray) (a1 : ByteArray) : Option (Int) := s_Indext.l0 k l0 a1 (l0.length : Int) 0
theorem s_Indext.mono_l : ∀ k, (∀ y0 y1 y2 y3, LeO (s_Indext.l0 k y0 y1 y2 y3) (s_Indext.l0 (k + 1) y0 y1 y2 y3))
 | 0 => fun _ _ _ _ r h => by simp [s_Indext.l0] at h
 | k + 1 => by
  have ih0 := s_Indext.mono_l k
  ·intro y0 y1 y2 y3
   unfold s_Indext.l0
   repeat' first
   | (with_reducible exact ih0 _ _ _ _)
   | (with_reducible exact LeO.refl _)
   | (with_reducible refine LeO.ite ?_ ?_)
theorem s_Indext.mono : ∀ a0 a1 k, LeO (s_Indext.f k a0 a1) (s_Indext.f (k + 1) a0 a1) := by
 intro a0 a1 k
 have ih0 := s_Indext.mono_l k
 unfold s_Indext.f
 repeat' first
  | (with_reducible exact ih0 _ _ _ _)
set_option maxHeartbeats 8000000 in
set_option maxRecDepth 100000 in
theorem s_Indext.calls (k : Nat) (A0 : Option Addr) (c0 : Nat) (l0 : List ByteArray) (a1 : ByteArray) (r : Int) (w : World) (hr0 : Kd.C Kd.string w A0 l0.length l0) (hc0 : l0.length ≤ c0) (h : s_Indext.f k l0 a1 = some r) :
 Calls Try.prog 102 #[.slice A0 l0.length c0, .string a1] w fun e w' => e = .returned (.int .i64 r) ∧ Drawn0 w w' := by
 have HR0 := Ak hr0
 have HC0 := Ak hc0
 clear hr0 hc0
 have H : (s_Indext.l0 k l0 a1 (l0.length : Int) 0) = some r := h
 clear h
 have H' := Ak H
 clear H
 go_enter Try.func102, Try.ntmps102
 go_wp2
 go_loopg [8] k (fun kq v8 w' => ∃ (x8_1 : Int), v8 = .int .i64 x8_1 ∧ Aside0 (s_Indext.l0 kq l0 a1 (l0.length : Int) x8_1 = some r) ∧ Aside0 (kq ≤ k) ∧ Drawn0 w w')
 case atStart => exact ⟨(0), (by rfl), H', ⟨Nat.le_refl _⟩, by repeat (exact Drawn0.refl _)⟩
 case round =>
  clear H'
  obtain ⟨x8_1, rfl, HA, HK1, ⟨m1, rfl⟩⟩ := hrel
  cases gk with
  | zero => exact absurd HA.out (by simp [s_Indext.l0])
  | succ k1 =>
   have H := HA.out
   clear HA
   simp only [s_Indext.l0] at H
   by_cases c3 : x8_1 < (l0.length : Int)
   ·rw [if_pos c3] at H
    have c3b0 : decide (x8_1 < (l0.length : Int)) = true := decide_eq_true c3
    clear c3
    by_cases c4 : 0 ≤ x8_1
    ·rw [if_pos c4] at H
     have c4b0 : decide (0 ≤ x8_1) = true := decide_eq_true c4
     clear c4
     by_cases c5 : x8_1 < (l0.length : Int)
     ·rw [if_pos c5] at H
      have c5b0 : decide (x8_1 < (l0.length : Int)) = true := decide_eq_true c5
      clear c5
      by_cases c6 : a1.toList = (rdOf ByteArray.empty l0 x8_1).toList
      ·rw [if_pos c6] at H
       have c6b0 : (a1.toList == (rdOf ByteArray.empty l0 x8_1).toList) = true := beq_iff_eq.mpr c6
       have c6b1 : (a1.toList != (rdOf ByteArray.empty l0 x8_1).toList) = false := bne_eq_false_iff_eq.mpr c6
       clear c6
       obtain rfl := Option.some.inj H
       have p400 : 0 ≤ (x8_1 : Int) := of_decide_eq_true (by (with_reducible assumption))
       have q400 : x8_1 < (l0.length : Int) := of_decide_eq_true (by (with_reducible assumption))
       obtain ⟨ad400, e400, hx400_0⟩ := Kd.at_string HR0.out x8_1 p400 q400
       cases e400
       replace p400 := eq_true p400
       replace q400 := eq_true q400
       go_wp2
       go_ret
       exact ⟨by rfl, by repeat (first | exact Drawn0.refl _ | apply Drawn0.step)⟩
      ·rw [if_neg c6] at H
       have c6b0 : (a1.toList == (rdOf ByteArray.empty l0 x8_1).toList) = false := beq_eq_false_iff_ne.mpr c6
       have c6b1 : (a1.toList != (rdOf ByteArray.empty l0 x8_1).toList) = true := bne_iff_ne.mpr c6
       have H' := Ak H
       clear H
       have p400 : 0 ≤ (x8_1 : Int) := of_decide_eq_true (by (with_reducible assumption))
       have q400 : x8_1 < (l0.length : Int) := of_decide_eq_true (by (with_reducible assumption))
       obtain ⟨ad400, e400, hx400_0⟩ := Kd.at_string HR0.out x8_1 p400 q400
       cases e400
       replace p400 := eq_true p400
       replace q400 := eq_true q400
       go_wp2
       go_roundg k1
       case measure => have := HK1.out; omega
       case rel => exact ⟨(wrap64 (x8_1 + 1)), (by rfl), H', ⟨by have := HK1.out; omega⟩, by repeat (first | exact Drawn0.refl _ | apply Drawn0.step)⟩
     ·rw [if_neg c5] at H
      exact absurd H (by simp)
    ·rw [if_neg c4] at H
     exact absurd H (by simp)
   ·rw [if_neg c3] at H
    have c3b0 : decide (x8_1 < (l0.length : Int)) = false := decide_eq_false c3
    clear c3
    obtain rfl := Option.some.inj H
    go_wp2
    go_ret
    exact ⟨by rfl, by repeat (first | exact Drawn0.refl _ | apply Drawn0.step)⟩
mutual
def q_packed.l0 : Nat → Int → List Int → Int → List Int → Int → Int → Option (List Int)
 | 0, _, _, _, _, _, _ => none
 | k + 1, x1, x5, x6, x17, x18, x19 => if x19 < x18 then (if 0 ≤ x19 then (if x19 < (x17.length : Int) then (q_packed.l1 k x1 x5 x6 (rd x17 x19) (wrap64 (x1 - 1)) x17 x18 x19) else (none)) else (none)) else (some x5)
def q_packed.l1 : Nat → Int → List Int → Int → Int → Int → List Int → Int → Int → Option (List Int)
 | 0, _, _, _, _, _, _, _, _ => none
 | k + 1, x1, x5, x6, x8, x9, x17, x18, x19 => if x9 ≥ 0 then (if 0 ≤ x9 then (if (Go.bits .and .i64 (shr .i64 x8 x9) 1) = 1 then (if 0 ≤ (wrap64 (Int.tdiv x6 8)) then (if (wrap64 (Int.tdiv x6 8)) < (x5.length : Int) then (if 0 ≤ (Int.tmod x6 8) then (q_packed.l1 k x1 (x5.set ((wrap64 (Int.tdiv x6 8)) : Int).toNat (Go.bits .or .u8 (rd x5 (wrap64 (Int.tdiv x6 8))) (shr .u8 128 (Int.tmod x6 8)))) (wrap64 (x6 + 1)) x8 (wrap64 (x9 - 1)) x17 x18 x19) else (none)) else (none)) else (none)) else (q_packed.l1 k x1 x5 (wrap64 (x6 + 1)) x8 (wrap64 (x9 - 1)) x17 x18 x19)) else (none)) else (q_packed.l0 k x1 x5 x6 x17 x18 (wrap64 (x19 + 1)))
end
def q_packed.f (k : Nat) (l0 : List Int) (a1 : Int) : Option (List Int) := if 0 ≤ (wrap64 (Int.tdiv (wrap64 ((wrap64 ((l0.length : Int) * a1)) + 7)) 8)) then (if (wrap64 (Int.tdiv (wrap64 ((wrap64 ((l0.length : Int) * a1)) + 7)) 8) : Int).toNat ≤ 281474976710656 then (q_packed.l0 k a1 (List.replicate (wrap64 (Int.tdiv (wrap64 ((wrap64 ((l0.length : Int) * a1)) + 7)) 8) : Int).toNat 0) 0 l0 (l0.length : Int) 0) else (none)) else (none)
theorem q_packed.mono_l : ∀ k, (∀ y0 y1 y2 y3 y4 y5, LeO (q_packed.l0 k y0 y1 y2 y3 y4 y5) (q_packed.l0 (k + 1) y0 y1 y2 y3 y4 y5)) ∧ (∀ y0 y1 y2 y3 y4 y5 y6 y7, LeO (q_packed.l1 k y0 y1 y2 y3 y4 y5 y6 y7) (q_packed.l1 (k + 1) y0 y1 y2 y3 y4 y5 y6 y7))
 | 0 => ⟨fun _ _ _ _ _ _ r h => by simp [q_packed.l0] at h, fun _ _ _ _ _ _ _ _ r h => by simp [q_packed.l1] at h⟩
 | k + 1 => by
  obtain ⟨ih0, ih1⟩ := q_packed.mono_l k
  refine ⟨?_, ?_⟩ <;> intros
  all_goals (first | unfold q_packed.l0 | unfold q_packed.l1)
  all_goals
   repeat' first
   | (with_reducible exact ih0 _ _ _ _ _ _)
   | (with_reducible exact ih1 _ _ _ _ _ _ _ _)
   | (with_reducible exact LeO.refl _)
   | (with_reducible refine LeO.ite ?_ ?_)
theorem q_packed.mono : ∀ a0 a1 k, LeO (q_packed.f k a0 a1) (q_packed.f (k + 1) a0 a1) := by
 intro a0 a1 k
 obtain ⟨ih0, ih1⟩ := q_packed.mono_l k
 unfold q_packed.f
 repeat' first
  | (with_reducible exact ih0 _ _ _ _ _ _)
  | (with_reducible exact LeO.refl _)
  | (with_reducible refine LeO.ite ?_ ?_)
def q_packed.T10 : Bool × List (List Nat × List Nat) := (true, [([], []), ([], []), ([1], [1]), ([0, 2], [0, 2]), ([3], [3]), ([], []), ([5], [5]), ([6], [6]), ([4, 7], [4, 7]), ([0, 2, 0, 1, 2, 3, 4, 5, 6, 7, 8], [0, 2]), ([9, 8, 0, 1, 2, 3, 4, 5, 6, 7, 8], [8, 9])])
def q_packed.B10 : List Nat := [0, 0, 2, 7, 15, 0, 32, 96, 255, 511, 1023]
theorem q_packed.tab10 : rtab .any (opsOf Try.f103 10) = q_packed.T10 := by kernel_rfl
theorem q_packed.bits10 : waitsOk q_packed.T10.2 q_packed.B10 = true := by kernel_rfl
set_option maxHeartbeats 8000000 in
set_option maxRecDepth 100000 in
theorem q_packed.calls (k : Nat) (A0 : Option Addr) (c0 : Nat) (l0 : List Int) (a1 : Int) (r : List Int) (w : World) (hr0 : Kd.C (Kd.int .i64) w A0 l0.length l0) (hc0 : l0.length ≤ c0) (h : q_packed.f k l0 a1 = some r) :
 Calls Try.prog 103 #[.slice A0 l0.length c0, .int .i64 a1] w fun e w' => ∃ v0_ : Value, e = .returned (v0_) ∧ Kd.R (Kd.int .u8) 5 w' w.heap.size (fun _ => True) v0_ r ∧ Below w.heap.size w w' := by
 have HR0 := Ak hr0
 have HC0 := Ak hc0
 clear hr0 hc0
 have HB := Ak (Below.refl w.heap.size w)
 have H : (if 0 ≤ (wrap64 (Int.tdiv (wrap64 ((wrap64 ((l0.length : Int) * a1)) + 7)) 8)) then (if (wrap64 (Int.tdiv (wrap64 ((wrap64 ((l0.length : Int) * a1)) + 7)) 8) : Int).toNat ≤ 281474976710656 then (q_packed.l0 k a1 (List.replicate (wrap64 (Int.tdiv (wrap64 ((wrap64 ((l0.length : Int) * a1)) + 7)) 8) : Int).toNat 0) 0 l0 (l0.length : Int) 0) else (none)) else (none)) = some r := h
 clear h
 obtain ⟨ji3, hji3⟩ : ∃ j_ : Int, (wrap64 (Int.tdiv (wrap64 ((wrap64 ((l0.length : Int) * a1)) + 7)) 8)) = j_ := ⟨_, rfl⟩
 replace H : (if 0 ≤ (ji3) then (if (ji3 : Int).toNat ≤ 281474976710656 then (q_packed.l0 k a1 (List.replicate (ji3 : Int).toNat 0) 0 l0 (l0.length : Int) 0) else (none)) else (none)) = some r := by (rw [hji3] at H; exact H)
 have hji3w : (IntKind.i64.wrap (Int.tdiv (wrap64 ((wrap64 ((l0.length : Int) * a1)) + 7)) 8)) = ji3 := (i64_w _).trans hji3
 by_cases c4 : 0 ≤ (ji3)
 ·rw [if_pos c4] at H
  have c4b0 := eq_true c4
  have c4b1 : decide (0 ≤ (ji3)) = true := decide_eq_true c4
  clear c4
  by_cases c5 : (ji3 : Int).toNat ≤ 281474976710656
  ·rw [if_pos c5] at H
   have c5b0 := eq_true c5
   have c5b1 : decide ((ji3 : Int).toNat ≤ 281474976710656) = true := decide_eq_true c5
   clear c5
   obtain ⟨y401, hy401⟩ : ∃ y_ : List Int, y_ = (List.replicate (ji3 : Int).toNat 0) := ⟨_, rfl⟩
   replace H : (q_packed.l0 k a1 y401 0 l0 (l0.length : Int) 0) = some r := by (rw [hy401]; with_reducible exact H)
   have Ny401 := Ak hy401
   clear hy401
   have H' := Ak H
   clear H
   go_enter Try.func103, Try.ntmps103
   go_wp2_with (first | ((with_reducible refine gate_dst (N := 16) rfl ?_); refine Kd.R_make (Kd.int .u8) _ 5 rfl (N := 16) rfl 27 _ _ rfl ji3 rfl rfl Try.underlying27 (.int .u8 0) 1 info5 rfl (by decide) (by omega) 0 (ok := fun _ => True) (okp := fun _ => True) rfl (fun _ hk => hk) trivial (of_decide_eq_true (by (with_reducible assumption))) (Nat.le_trans (Nat.mul_le_mul_right _ (of_decide_eq_true (by (with_reducible assumption)) : ji3.toNat ≤ 281474976710656)) (by omega)) (Below.refl _ _) (Nat.le_refl _) ?_; intro v402 w6 ho7 hb hg_ hnew_; clear hg_ hnew_; (rw [← Ny401.out] at ho7); have n0_ := Ak (Kd.R_lower ho7 (below_size (by exact HB.out))); have n1_ := Ak (below_step (by exact HB.out) hb); clear HB; have HO403 := n0_; have HB := n1_; clear n0_ n1_ hb ho7))
   go_loopg [6, 19] k (fun kq v6 v19 w' => ∃ (x5_1 : List Int) (x6_1 : Int) (x19_1 : Int), v6 = .int .i64 x6_1 ∧ v19 = .int .i64 x19_1 ∧ Aside0 (q_packed.l0 kq a1 x5_1 x6_1 l0 (l0.length : Int) x19_1 = some r) ∧ Aside0 (kq ≤ k) ∧ Aside0 (Kd.R (Kd.int .u8) 5 w' w.heap.size (fun _ => True) v402 x5_1) ∧ Aside0 (Below w.heap.size w w'))
   case atStart => exact ⟨(y401), (0), (0), (by rfl), (by rfl), H', ⟨Nat.le_refl _⟩, ⟨by exact HO403.out⟩, ⟨by exact HB.out⟩⟩
   case round =>
    clear H'
    try clear c4b0
    try clear c4b1
    try clear c5b0
    try clear c5b1
    obtain ⟨x5_1, x6_1, x19_1, rfl, rfl, HA, HK1, HO_5, HB⟩ := hrel
    cases gk with
    | zero => exact absurd HA.out (by simp [q_packed.l0])
    | succ k1 =>
     have H := HA.out
     clear HA
     simp only [q_packed.l0] at H
     by_cases c8 : x19_1 < (l0.length : Int)
     ·rw [if_pos c8] at H
      have c8b0 : decide (x19_1 < (l0.length : Int)) = true := decide_eq_true c8
      clear c8
      by_cases c9 : 0 ≤ x19_1
      ·rw [if_pos c9] at H
       have c9b0 : decide (0 ≤ x19_1) = true := decide_eq_true c9
       clear c9
       by_cases c10 : x19_1 < (l0.length : Int)
       ·rw [if_pos c10] at H
        have c10b0 : decide (x19_1 < (l0.length : Int)) = true := decide_eq_true c10
        clear c10
        have H' := Ak H
        clear H
        have p404 : 0 ≤ (x19_1 : Int) := of_decide_eq_true (by (with_reducible assumption))
        have q404 : x19_1 < (l0.length : Int) := of_decide_eq_true (by (with_reducible assumption))
        obtain ⟨ad404, e404, hx404_0⟩ := Kd.at_int HR0.out x19_1 p404 q404
        cases e404
        replace hx404_0 := (HB.out.cell (World.block_lt_of_cell? w _ hx404_0)).trans hx404_0
        replace p404 := eq_true p404
        replace q404 := eq_true q404
        go_wp2
        go_loopg [6, 9] k1 (fun kq v6 v9 w' => ∃ (x5_2 : List Int) (x6_2 : Int) (x9_2 : Int), v6 = .int .i64 x6_2 ∧ v9 = .int .i64 x9_2 ∧ Aside0 (q_packed.l1 kq a1 x5_2 x6_2 (rd l0 x19_1) x9_2 l0 (l0.length : Int) x19_1 = some r) ∧ Aside0 (kq ≤ k1) ∧ Aside0 (Kd.R (Kd.int .u8) 5 w' w.heap.size (fun _ => True) v402 x5_2) ∧ Aside0 (Below w.heap.size w w'))
        case atStart => exact ⟨(x5_1), (x6_1), (wrap64 (a1 - 1)), (by rfl), (by rfl), H', ⟨Nat.le_refl _⟩, ⟨by exact HO_5.out⟩, ⟨by exact HB.out⟩⟩
        case round =>
         clear H'
         try clear c8b0
         try clear c9b0
         try clear c10b0
         try clear hx404_0
         try clear p404
         try clear q404
         obtain ⟨x5_2, x6_2, x9_2, rfl, rfl, HA, HK2, HO_5, HB⟩ := hrel
         cases gk with
         | zero => exact absurd HA.out (by simp [q_packed.l1])
         | succ k2 =>
          have H := HA.out
          clear HA
          simp only [q_packed.l1] at H
          by_cases c11 : x9_2 ≥ 0
          ·rw [if_pos c11] at H
           have c11b0 : decide (0 ≤ x9_2) = true := decide_eq_true c11
           clear c11
           by_cases c12 : 0 ≤ x9_2
           ·rw [if_pos c12] at H
            have c12b0 := eq_true c12
            have c12b1 : decide (0 ≤ x9_2) = true := decide_eq_true c12
            clear c12
            obtain ⟨ji13, hji13⟩ : ∃ j_ : Int, (shr .i64 (rd l0 x19_1) x9_2) = j_ := ⟨_, rfl⟩
            replace H : (if (Go.bits .and .i64 (ji13) 1) = 1 then (if 0 ≤ (wrap64 (Int.tdiv x6_2 8)) then (if (wrap64 (Int.tdiv x6_2 8)) < (x5_2.length : Int) then (if 0 ≤ (Int.tmod x6_2 8) then (q_packed.l1 k2 a1 (x5_2.set ((wrap64 (Int.tdiv x6_2 8)) : Int).toNat (Go.bits .or .u8 (rd x5_2 (wrap64 (Int.tdiv x6_2 8))) (shr .u8 128 (Int.tmod x6_2 8)))) (wrap64 (x6_2 + 1)) (rd l0 x19_1) (wrap64 (x9_2 - 1)) l0 (l0.length : Int) x19_1) else (none)) else (none)) else (none)) else (q_packed.l1 k2 a1 x5_2 (wrap64 (x6_2 + 1)) (rd l0 x19_1) (wrap64 (x9_2 - 1)) l0 (l0.length : Int) x19_1)) = some r := by (rw [hji13] at H; exact H)
            have hji13_ : ((rd l0 x19_1) / 2 ^ min x9_2.toNat 64) = ji13 := hji13
            have hji13z : x9_2 ≤ 64 → ((rd l0 x19_1) / 2 ^ x9_2.toNat) = ji13 := shr_small hji13
            by_cases c14 : (Go.bits .and .i64 (ji13) 1) = 1
            ·rw [if_pos c14] at H
             have c14b0 : ((Go.bits .and .i64 (ji13) 1) == 1) = true := beq_iff_eq.mpr c14
             have c14b1 : ((Go.bits .and .i64 (ji13) 1) != 1) = false := bne_eq_false_iff_eq.mpr c14
             clear c14
             obtain ⟨ji15, hji15⟩ : ∃ j_ : Int, (wrap64 (Int.tdiv x6_2 8)) = j_ := ⟨_, rfl⟩
             replace H : (if 0 ≤ (ji15) then (if (ji15) < (x5_2.length : Int) then (if 0 ≤ (Int.tmod x6_2 8) then (q_packed.l1 k2 a1 (x5_2.set ((ji15) : Int).toNat (Go.bits .or .u8 (rd x5_2 (ji15)) (shr .u8 128 (Int.tmod x6_2 8)))) (wrap64 (x6_2 + 1)) (rd l0 x19_1) (wrap64 (x9_2 - 1)) l0 (l0.length : Int) x19_1) else (none)) else (none)) else (none)) = some r := by (rw [hji15] at H; exact H)
             have hji15w : (IntKind.i64.wrap (Int.tdiv x6_2 8)) = ji15 := (i64_w _).trans hji15
             by_cases c16 : 0 ≤ (ji15)
             ·rw [if_pos c16] at H
              have c16b0 : decide (0 ≤ (ji15)) = true := decide_eq_true c16
              clear c16
              by_cases c17 : (ji15) < (x5_2.length : Int)
              ·rw [if_pos c17] at H
               have c17b0 : decide ((ji15) < (x5_2.length : Int)) = true := decide_eq_true c17
               clear c17
               obtain ⟨ji18, hji18⟩ : ∃ j_ : Int, (Int.tmod x6_2 8) = j_ := ⟨_, rfl⟩
               replace H : (if 0 ≤ (ji18) then (q_packed.l1 k2 a1 (x5_2.set ((ji15) : Int).toNat (Go.bits .or .u8 (rd x5_2 (ji15)) (shr .u8 128 (ji18)))) (wrap64 (x6_2 + 1)) (rd l0 x19_1) (wrap64 (x9_2 - 1)) l0 (l0.length : Int) x19_1) else (none)) = some r := by (rw [hji18] at H; exact H)
               by_cases c19 : 0 ≤ (ji18)
               ·rw [if_pos c19] at H
                have c19b0 := eq_true c19
                have c19b1 : decide (0 ≤ (ji18)) = true := decide_eq_true c19
                clear c19
                obtain ⟨ji20, hji20⟩ : ∃ j_ : Int, (shr .u8 128 (ji18)) = j_ := ⟨_, rfl⟩
                replace H : (q_packed.l1 k2 a1 (x5_2.set ((ji15) : Int).toNat (Go.bits .or .u8 (rd x5_2 (ji15)) (ji20))) (wrap64 (x6_2 + 1)) (rd l0 x19_1) (wrap64 (x9_2 - 1)) l0 (l0.length : Int) x19_1) = some r := by (rw [hji20] at H; exact H)
                have hji20_ : (128 / 2 ^ min (ji18).toNat 8) = ji20 := hji20
                have hji20z : (ji18) ≤ 8 → (128 / 2 ^ (ji18).toNat) = ji20 := shr_small hji20
                obtain ⟨y406, hy406⟩ : ∃ y_ : List Int, y_ = (x5_2.set ((ji15) : Int).toNat (Go.bits .or .u8 (rd x5_2 (ji15)) (ji20))) := ⟨_, rfl⟩
                replace H : (q_packed.l1 k2 a1 y406 (wrap64 (x6_2 + 1)) (rd l0 x19_1) (wrap64 (x9_2 - 1)) l0 (l0.length : Int) x19_1) = some r := by (rw [hy406]; with_reducible exact H)
                have Ny406 := Ak hy406
                clear hy406
                have H' := Ak H
                clear H
                try go_wp2
                have n0_ := Ak (Kd.R_drew HO_5.out)
                have n1_ := Ak (below_drew1 HB.out)
                clear HO_5 HB
                have HO_5 := n0_
                have HB := n1_
                clear n0_ n1_
                obtain ⟨Ao23, co23, eo23⟩ := Kd.R_slice HO_5.out
                (subst eo23)
                have p405 : 0 ≤ ((ji15) : Int) := of_decide_eq_true (by (with_reducible assumption))
                have q405 : (ji15) < (x5_2.length : Int) := of_decide_eq_true (by (with_reducible assumption))
                obtain ⟨ad405, e405, hx405_0⟩ := Kd.at_int (Kd.R_reads' HO_5.out).2.2 (ji15) p405 q405
                cases e405
                replace p405 := eq_true p405
                replace q405 := eq_true q405
                have p21 : 0 ≤ ((ji15) : Int) := of_decide_eq_true (by (with_reducible assumption))
                have q21 : ((ji15) : Int) < ((x5_2.length : Int) : Int) := of_decide_eq_true (by (with_reducible assumption))
                obtain ⟨go21, co21, eo21, gb21, gl21, cl21, HG21⟩ := Kd.R_form HO_5.out (by omega)
                (cases eo21)
                have GB21 := Ak gb21
                have GG21 := Ak HG21
                clear gb21 gl21 HG21
                (simp only [add_plain] at hx405_0)
                obtain ⟨hx21_0, hf21_0⟩ := Kd.R_celln 0 HO_5.out ((ji15) : Int) p21 q21
                replace p21 := eq_true p21
                replace q21 := eq_true q21
                have HP24 := Kd.R_putn HO_5.out ((ji15) : Int) (Go.bits .or .u8 (rd x5_2 (ji15)) (ji20))
                rw [← Ny406.out] at HP24
                have HQ24 := Ak HP24
                clear HP24
                refine start_ (n := 11) (S := fun w' => w'.cell? ⟨go21, ((ji15)).toNat, none⟩ = some (.int .u8 (rd x5_2 (ji15)))) (ds := [10]) #[false, false, false, false, false, false, false, false, false, false, false] (by kernel_rfl) rfl rfl (hx405_0) (fun hHeld => ?_); refine with_tabW q_packed.tab10 q_packed.bits10 (fun HT_ HW_ => ?_)
                generalize wr.drew = w22 at HO_5 HB GG21 HQ24 hf21_0 hx21_0 hx405_0 hHeld ⊢
                refine pure_ (i := 0) (N := some 34) (v := ?_) (a' := ?_) #[true, false, false, false, false, false, false, false, false, false, false] rfl rfl (any_of HT_.out (by kernel_rfl)) (fun _ _ _ h => h) (Or.inl ⟨by rfl, ?_⟩) ?_ ?_
                rotate_left
                ·intro w'
                 go_simp
                 with_reducible rfl
                rotate_left
                ·simp only [Act.put, List.setIfInBounds_toArray, List.set_cons_zero, List.set_cons_succ, i64_w, i32_w]
                 rfl
                refine pure_ (i := 1) (N := some 35) (v := ?_) (a' := ?_) #[true, true, false, false, false, false, false, false, false, false, false] rfl rfl (any_of HT_.out (by kernel_rfl)) (fun _ _ _ h => h) (Or.inl ⟨by rfl, ?_⟩) ?_ ?_
                rotate_left
                ·intro w'
                 go_simp
                 with_reducible rfl
                rotate_left
                ·simp only [Act.put, List.setIfInBounds_toArray, List.set_cons_zero, List.set_cons_succ, i64_w, i32_w]
                 rfl
                refine pure_ (i := 2) (N := some 36) (v := ?_) (a' := ?_) #[true, true, true, false, false, false, false, false, false, false, false] rfl rfl (any_of HT_.out (by kernel_rfl)) (fun _ _ _ h => h) (Or.inl ⟨by rfl, ?_⟩) ?_ ?_
                rotate_left
                ·intro w'
                 go_simp
                 with_reducible rfl
                rotate_left
                ·simp only [Act.put, List.setIfInBounds_toArray, List.set_cons_zero, List.set_cons_succ, i64_w, i32_w]
                 rfl
                refine pure_ (i := 3) (N := some 37) (v := ?_) (a' := ?_) #[true, true, true, true, false, false, false, false, false, false, false] rfl rfl (any_of HT_.out (by kernel_rfl)) (fun _ _ _ h => h) (Or.inl ⟨by rfl, ?_⟩) ?_ ?_
                rotate_left
                ·intro w'
                 go_simp
                 with_reducible rfl
                rotate_left
                ·simp only [Act.put, List.setIfInBounds_toArray, List.set_cons_zero, List.set_cons_succ, i64_w, i32_w]
                 rfl
                refine pure_ (i := 5) (N := some 39) (v := ?_) (a' := ?_) #[true, true, true, true, false, true, false, false, false, false, false] rfl rfl (any_of HT_.out (by kernel_rfl)) (fun _ _ _ h => h) (Or.inl ⟨by rfl, ?_⟩) ?_ ?_
                rotate_left
                ·intro w'
                 go_simp
                 with_reducible rfl
                rotate_left
                ·simp only [Act.put, List.setIfInBounds_toArray, List.set_cons_zero, List.set_cons_succ, i64_w, i32_w]
                 rfl
                refine pure_ (i := 6) (N := some 40) (v := ?_) (a' := ?_) #[true, true, true, true, false, true, true, false, false, false, false] rfl rfl (any_of HT_.out (by kernel_rfl)) (fun _ _ _ h => h) (Or.inl ⟨by rfl, ?_⟩) ?_ ?_
                rotate_left
                ·intro w'
                 go_simp
                 with_reducible rfl
                rotate_left
                ·simp only [Act.put, List.setIfInBounds_toArray, List.set_cons_zero, List.set_cons_succ, i64_w, i32_w]
                 rfl
                refine pure_ (i := 7) (N := some 41) (v := ?_) (a' := ?_) #[true, true, true, true, false, true, true, true, false, false, false] rfl rfl (any_of HT_.out (by kernel_rfl)) (fun _ _ _ h => h) (Or.inl ⟨by rfl, ?_⟩) ?_ ?_
                rotate_left
                ·intro w'
                 go_simp
                 with_reducible rfl
                rotate_left
                ·simp only [Act.put, List.setIfInBounds_toArray, List.set_cons_zero, List.set_cons_succ, i64_w, i32_w]
                 rfl
                refine take_ (i := 4) (N := some 38) (v := ?_) (a' := ?_) #[true, true, true, true, true, true, true, true, false, false, false] rfl rfl (take_ofW HT_.out HW_.out (by kernel_rfl)) (fun _ _ _ h => h) (Or.inl ⟨by rfl, ?_⟩) hHeld ?_ ?_
                rotate_left
                ·intro w' s0
                 go_simp
                 with_reducible rfl
                rotate_left
                ·simp only [Act.put, List.setIfInBounds_toArray, List.set_cons_zero, List.set_cons_succ, i64_w, i32_w]
                 rfl
                refine pure_ (i := 8) (N := some 42) (v := ?_) (a' := ?_) #[true, true, true, true, true, true, true, true, true, false, false] rfl rfl (any_of HT_.out (by kernel_rfl)) (fun _ _ _ h => h) (Or.inl ⟨by rfl, ?_⟩) ?_ ?_
                rotate_left
                ·intro w'
                 go_simp
                 with_reducible rfl
                rotate_left
                ·simp only [Act.put, List.setIfInBounds_toArray, List.set_cons_zero, List.set_cons_succ, i64_w, i32_w]
                 rfl
                refine pure_ (i := 9) (N := some 43) (v := ?_) (a' := ?_) #[true, true, true, true, true, true, true, true, true, true, false] rfl rfl (any_of HT_.out (by kernel_rfl)) (fun _ _ _ h => h) (Or.inl ⟨by rfl, ?_⟩) ?_ ?_
                rotate_left
                ·intro w'
                 go_simp
                 with_reducible rfl
                rotate_left
                ·simp only [Act.put, List.setIfInBounds_toArray, List.set_cons_zero, List.set_cons_succ, i64_w, i32_w]
                 rfl
                refine last_ (i := 10) (N := none) #[true, true, true, true, true, true, true, true, true, true, true] rfl rfl (one_of HT_.out (by kernel_rfl)) (by decide) (fun K hK => ?_)
                refine skip_ (w1 := ?_) (by rfl) rfl ?_ ?_
                rotate_left
                ·go_simp
                 rfl
                refine hK.out _ _ ?_
                clear hK K
                refine done_ (done_of HT_.out (by kernel_rfl)) ?_
                try go_wp2
                go_roundg k2
                case measure => have := HK1.out; have := HK2.out; omega
                case rel => exact ⟨(y406), (wrap64 (x6_2 + 1)), (wrap64 (x9_2 - 1)), (by rfl), (by rfl), H', ⟨by have := HK1.out; have := HK2.out; omega⟩, ⟨by exact HQ24.out⟩, ⟨by repeat ((with_reducible first | exact HB.out | refine below_set ?_ GB21.out))⟩⟩
               ·rw [if_neg c19] at H
                exact absurd H (by simp)
              ·rw [if_neg c17] at H
               exact absurd H (by simp)
             ·rw [if_neg c16] at H
              exact absurd H (by simp)
            ·rw [if_neg c14] at H
             have c14b0 : ((Go.bits .and .i64 (ji13) 1) == 1) = false := beq_eq_false_iff_ne.mpr c14
             have c14b1 : ((Go.bits .and .i64 (ji13) 1) != 1) = true := bne_iff_ne.mpr c14
             have H' := Ak H
             clear H
             go_wp2
             go_roundg k2
             case measure => have := HK1.out; have := HK2.out; omega
             case rel => exact ⟨(x5_2), (wrap64 (x6_2 + 1)), (wrap64 (x9_2 - 1)), (by rfl), (by rfl), H', ⟨by have := HK1.out; have := HK2.out; omega⟩, ⟨by exact HO_5.out⟩, ⟨by exact HB.out⟩⟩
           ·rw [if_neg c12] at H
            exact absurd H (by simp)
          ·rw [if_neg c11] at H
           have c11b0 : decide (0 ≤ x9_2) = false := decide_eq_false c11
           clear c11
           have H' := Ak H
           clear H
           go_wp2
           go_roundg k2
           case measure => have := HK1.out; have := HK2.out; omega
           case rel => exact ⟨(x5_2), (x6_2), (wrap64 (x19_1 + 1)), (by rfl), (by rfl), H', ⟨by have := HK1.out; have := HK2.out; omega⟩, ⟨by exact HO_5.out⟩, ⟨by exact HB.out⟩⟩
       ·rw [if_neg c10] at H
        exact absurd H (by simp)
      ·rw [if_neg c9] at H
       exact absurd H (by simp)
     ·rw [if_neg c8] at H
      have c8b0 : decide (x19_1 < (l0.length : Int)) = false := decide_eq_false c8
      clear c8
      obtain rfl := Option.some.inj H
      go_wp2
      go_ret
      exact ⟨_, by rfl, by exact HO_5.out, by exact HB.out⟩
  ·rw [if_neg c5] at H
   exact absurd H (by simp)
 ·rw [if_neg c4] at H
  exact absurd H (by simp)
def q_width.f (a0 : Int) : Option (Int) := (bits_Len.f (IntKind.u64.wrap (a0))).bind fun t407 => (some t407)
set_option maxHeartbeats 8000000 in
set_option maxRecDepth 100000 in
theorem q_width.calls (a0 : Int) (r : Int) (w : World) (h : q_width.f a0 = some r) :
 Calls Try.prog 104 #[.int .i64 a0] w fun e w' => e = .returned (.int .i64 r) ∧ Drawn0 w w' := by
 have H : ((bits_Len.f (IntKind.u64.wrap (a0))).bind fun t407 => (some t407)) = some r := h
 clear h
 replace H := Option.bind_eq_some_iff.mp H
 obtain ⟨t407, A20, H⟩ := H
 replace H : (some t407) = some r := H
 have A2 := Ak A20
 clear A20
 obtain rfl := Option.some.inj H
 go_enter Try.func104, Try.ntmps104
 go_wp2_with (first | ((with_reducible refine gate_callee (f := 110) rfl ?_); refine goesL_ (some 5) rfl rfl Try.func110 (by kernel_rfl) rfl #[.int .u64 (IntKind.u64.wrap (a0))] rfl (by (try simp only [lm]); rfl) ?_; (with_reducible refine (bits_Len.calls (IntKind.u64.wrap (a0)) t407 _ A2.out).mono ?_); rintro e w' ⟨rfl, ⟨nd, rfl⟩⟩; refine ⟨_, rfl, ?_⟩))
 go_ret
 exact ⟨by rfl, by repeat (first | exact Drawn0.refl _ | apply Drawn0.step)⟩
mutual
def q_textBytes.l0 : Nat → List Int → List ByteArray → Int → Int → Option (List Int)
 | 0, _, _, _, _ => none
 | k + 1, x5, x28, x29, x30 => if x30 < x29 then (if 0 ≤ x30 then (if x30 < (x28.length : Int) then ((q_count.f k ((rdOf ByteArray.empty x28 x30).size : Int)).bind fun t418 => (if x5.length + t418.length < 140737488355328 then ((some (x5 ++ t418 : List Int)).bind fun y421 => (if y421.length + (rdOf ByteArray.empty x28 x30).size < 140737488355328 then (q_textBytes.l0 k (y421 ++ bytesOf (rdOf ByteArray.empty x28 x30)) x28 x29 (wrap64 (x30 + 1))) else (none))) else (none))) else (none)) else (none)) else (some x5)
def q_textBytes.l1 : Nat → List ByteArray → List Int → List ByteArray → Int → Int → Option (List Int)
 | 0, _, _, _, _, _ => none
 | k + 1, x1, x5, x8, x55, x56 => if x56 < x55 then (if 0 ≤ x56 then (if x56 < (x8.length : Int) then (if x56 > 0 then (if 0 ≤ (wrap64 (x56 - 1)) then (if (wrap64 (x56 - 1)) < (x8.length : Int) then ((q_alike.f k (rdOf ByteArray.empty x8 (wrap64 (x56 - 1))) (rdOf ByteArray.empty x8 x56)).bind fun t442 => ((q_count.f k t442).bind fun t443 => (if x5.length + t443.length < 140737488355328 then ((some (x5 ++ t443 : List Int)).bind fun y446 => ((q_count.f k (wrap64 (((rdOf ByteArray.empty x8 x56).size : Int) - t442))).bind fun t449 => (if y446.length + t449.length < 140737488355328 then ((some (y446 ++ t449 : List Int)).bind fun y452 => (if 0 ≤ t442 then (if t442 ≤ ((rdOf ByteArray.empty x8 x56).size : Int) then (if y452.length + ((rdOf ByteArray.empty x8 x56).extract (t442 : Int).toNat (rdOf ByteArray.empty x8 x56).size).size < 140737488355328 then (q_textBytes.l1 k x1 (y452 ++ bytesOf ((rdOf ByteArray.empty x8 x56).extract (t442 : Int).toNat (rdOf ByteArray.empty x8 x56).size)) x8 x55 (wrap64 (x56 + 1))) else (none)) else (none)) else (none))) else (none)))) else (none)))) else (none)) else (none)) else ((q_count.f k 0).bind fun t458 => (if x5.length + t458.length < 140737488355328 then ((some (x5 ++ t458 : List Int)).bind fun y461 => ((q_count.f k (wrap64 (((rdOf ByteArray.empty x8 x56).size : Int) - 0))).bind fun t464 => (if y461.length + t464.length < 140737488355328 then ((some (y461 ++ t464 : List Int)).bind fun y467 => (if 0 ≤ ((rdOf ByteArray.empty x8 x56).size : Int) then (if y467.length + ((rdOf ByteArray.empty x8 x56).extract 0 (rdOf ByteArray.empty x8 x56).size).size < 140737488355328 then (q_textBytes.l1 k x1 (y467 ++ bytesOf ((rdOf ByteArray.empty x8 x56).extract 0 (rdOf ByteArray.empty x8 x56).size)) x8 x55 (wrap64 (x56 + 1))) else (none)) else (none))) else (none)))) else (none)))) else (none)) else (none)) else (if 0 ≤ (x1.length : Int) then (if ((x1.length : Int) : Int).toNat ≤ 35184372088832 then (q_textBytes.l2 k x5 x8 (List.replicate ((x1.length : Int) : Int).toNat 0) x1 (x1.length : Int) 0) else (none)) else (none))
def q_textBytes.l2 : Nat → List Int → List ByteArray → List Int → List ByteArray → Int → Int → Option (List Int)
 | 0, _, _, _, _, _, _ => none
 | k + 1, x5, x8, x12, x88, x89, x90 => if x90 < x89 then (if 0 ≤ x90 then (if x90 < (x88.length : Int) then ((s_Indext.f k x8 (rdOf ByteArray.empty x88 x90)).bind fun t477 => (if x90 < (x12.length : Int) then (q_textBytes.l2 k x5 x8 (x12.set (x90 : Int).toNat t477) x88 x89 (wrap64 (x90 + 1))) else (none))) else (none)) else (none)) else ((q_width.f (wrap64 ((x8.length : Int) - 1))).bind fun t479 => ((q_packed.f k x12 t479).bind fun t480 => (if x5.length + t480.length < 140737488355328 then (some (x5 ++ t480)) else (none))))
end
def q_textBytes.f (k : Nat) (a0 : Int) (l1 : List ByteArray) : Option (List Int) := (some (([(a0) % 256] : List Int) : List Int)).bind fun y408 => ((q_count.f k (l1.length : Int)).bind fun t411 => (if y408.length + t411.length < 140737488355328 then ((some (y408 ++ t411 : List Int)).bind fun y414 => (if (l1.length : Int) = 0 then (some y414) else (if a0 = 1 then (q_textBytes.l0 k y414 l1 (l1.length : Int) 0) else ((s_Clonet.f l1).bind fun t427 => ((s_Sortt.f t427).bind fun t430 => ((s_Compactt.f t430).bind fun t431 => ((q_count.f k (t431.length : Int)).bind fun t434 => (if y414.length + t434.length < 140737488355328 then (q_textBytes.l1 k l1 (y414 ++ t434) t431 (t431.length : Int) 0) else (none))))))))) else (none)))
theorem q_textBytes.mono_l : ∀ k, (∀ y0 y1 y2 y3, LeO (q_textBytes.l0 k y0 y1 y2 y3) (q_textBytes.l0 (k + 1) y0 y1 y2 y3)) ∧ (∀ y0 y1 y2 y3 y4, LeO (q_textBytes.l1 k y0 y1 y2 y3 y4) (q_textBytes.l1 (k + 1) y0 y1 y2 y3 y4)) ∧ (∀ y0 y1 y2 y3 y4 y5, LeO (q_textBytes.l2 k y0 y1 y2 y3 y4 y5) (q_textBytes.l2 (k + 1) y0 y1 y2 y3 y4 y5))
 | 0 => ⟨fun _ _ _ _ r h => by simp [q_textBytes.l0] at h, fun _ _ _ _ _ r h => by simp [q_textBytes.l1] at h, fun _ _ _ _ _ _ r h => by simp [q_textBytes.l2] at h⟩
 | k + 1 => by
  obtain ⟨ih0, ih1, ih2⟩ := q_textBytes.mono_l k
  refine ⟨?_, ?_, ?_⟩ <;> intros
  all_goals (first | unfold q_textBytes.l0 | unfold q_textBytes.l1 | unfold q_textBytes.l2)
  all_goals
   repeat' first
   | (with_reducible exact ih0 _ _ _ _)
   | (with_reducible exact ih1 _ _ _ _ _)
   | (with_reducible exact ih2 _ _ _ _ _ _)
   | (with_reducible exact q_alike.mono _ _ _)
   | (with_reducible exact q_count.mono _ _)
   | (with_reducible exact q_packed.mono _ _ _)
   | (with_reducible exact s_Indext.mono _ _ _)
   | (with_reducible exact LeO.refl _)
   | (with_reducible refine LeO.ite ?_ ?_)
   | (with_reducible refine LeO.bind ?_ (fun _ => ?_))
theorem q_textBytes.mono : ∀ a0 a1 k, LeO (q_textBytes.f k a0 a1) (q_textBytes.f (k + 1) a0 a1) := by
 intro a0 a1 k
 obtain ⟨ih0, ih1, ih2⟩ := q_textBytes.mono_l k
 unfold q_textBytes.f
 repeat' first
  | (with_reducible exact ih0 _ _ _ _)
  | (with_reducible exact ih1 _ _ _ _ _)
  | (with_reducible exact q_count.mono _ _)
  | (with_reducible exact LeO.refl _)
  | (with_reducible refine LeO.ite ?_ ?_)
  | (with_reducible refine LeO.bind ?_ (fun _ => ?_))
def q_textBytes.T21 : Bool × List (List Nat × List Nat) := (true, [([], []), ([], []), ([1], [1]), ([0, 2, 2], [0, 2]), ([], []), ([4], [4]), ([], []), ([5, 6], [5, 6]), ([7, 3], [7]), ([3, 8, 8], [3, 8]), ([], []), ([], []), ([10, 11], [10, 11]), ([9, 12, 9], [9, 12]), ([13, 13, 0, 1, 2, 3, 4, 5, 6, 7, 8, 9, 10, 11, 12, 13], [0, 13])])
def q_textBytes.B21 : List Nat := [0, 0, 2, 7, 0, 16, 0, 112, 255, 511, 0, 0, 3072, 8191, 16383]
theorem q_textBytes.tab21 : rtab .any (opsOf Try.f72 21) = q_textBytes.T21 := by kernel_rfl
theorem q_textBytes.bits21 : waitsOk q_textBytes.T21.2 q_textBytes.B21 = true := by kernel_rfl
set_option maxHeartbeats 8000000 in
set_option maxRecDepth 100000 in
theorem q_textBytes.calls (k : Nat) (a0 : Int) (A1 : Option Addr) (c1 : Nat) (l1 : List ByteArray) (r : List Int) (w : World) (hr1 : Kd.C Kd.string w A1 l1.length l1) (hc1 : l1.length ≤ c1) (h : q_textBytes.f k a0 l1 = some r) :
 Calls Try.prog 72 #[.int .i64 a0, .slice A1 l1.length c1] w fun e w' => ∃ v0_ : Value, e = .returned (v0_) ∧ Kd.R (Kd.int .u8) 5 w' w.heap.size (fun _ => True) v0_ r ∧ Below w.heap.size w w' := by
 have HR1 := Ak hr1
 have HC1 := Ak hc1
 clear hr1 hc1
 have HB := Ak (Below.refl w.heap.size w)
 have H : ((some (([(a0) % 256] : List Int) : List Int)).bind fun y408 => ((q_count.f k (l1.length : Int)).bind fun t411 => (if y408.length + t411.length < 140737488355328 then ((some (y408 ++ t411 : List Int)).bind fun y414 => (if (l1.length : Int) = 0 then (some y414) else (if a0 = 1 then (q_textBytes.l0 k y414 l1 (l1.length : Int) 0) else ((s_Clonet.f l1).bind fun t427 => ((s_Sortt.f t427).bind fun t430 => ((s_Compactt.f t430).bind fun t431 => ((q_count.f k (t431.length : Int)).bind fun t434 => (if y414.length + t434.length < 140737488355328 then (q_textBytes.l1 k l1 (y414 ++ t434) t431 (t431.length : Int) 0) else (none))))))))) else (none)))) = some r := h
 clear h
 obtain ⟨y408, hy408⟩ : ∃ y_ : List Int, y_ = (([(a0) % 256] : List Int)) := ⟨_, rfl⟩
 replace H : ((q_count.f k (l1.length : Int)).bind fun t411 => (if y408.length + t411.length < 140737488355328 then ((some (y408 ++ t411 : List Int)).bind fun y414 => (if (l1.length : Int) = 0 then (some y414) else (if a0 = 1 then (q_textBytes.l0 k y414 l1 (l1.length : Int) 0) else ((s_Clonet.f l1).bind fun t427 => ((s_Sortt.f t427).bind fun t430 => ((s_Compactt.f t430).bind fun t431 => ((q_count.f k (t431.length : Int)).bind fun t434 => (if y414.length + t434.length < 140737488355328 then (q_textBytes.l1 k l1 (y414 ++ t434) t431 (t431.length : Int) 0) else (none))))))))) else (none))) = some r := by (have H2_ := (Option.bind_some _ _).symm.trans H; rw [hy408]; with_reducible exact H2_)
 have Ny408 := Ak hy408
 clear hy408
 replace H := Option.bind_eq_some_iff.mp H
 obtain ⟨t411, A30, H⟩ := H
 replace H : (if y408.length + t411.length < 140737488355328 then ((some (y408 ++ t411 : List Int)).bind fun y414 => (if (l1.length : Int) = 0 then (some y414) else (if a0 = 1 then (q_textBytes.l0 k y414 l1 (l1.length : Int) 0) else ((s_Clonet.f l1).bind fun t427 => ((s_Sortt.f t427).bind fun t430 => ((s_Compactt.f t430).bind fun t431 => ((q_count.f k (t431.length : Int)).bind fun t434 => (if y414.length + t434.length < 140737488355328 then (q_textBytes.l1 k l1 (y414 ++ t434) t431 (t431.length : Int) 0) else (none))))))))) else (none)) = some r := H
 have A3 := Ak A30
 clear A30
 by_cases c4 : y408.length + t411.length < 140737488355328
 ·rw [if_pos c4] at H
  have LMc4 := Ak c4
  clear c4
  obtain ⟨y414, hy414⟩ : ∃ y_ : List Int, y_ = (y408 ++ t411) := ⟨_, rfl⟩
  replace H : (if (l1.length : Int) = 0 then (some y414) else (if a0 = 1 then (q_textBytes.l0 k y414 l1 (l1.length : Int) 0) else ((s_Clonet.f l1).bind fun t427 => ((s_Sortt.f t427).bind fun t430 => ((s_Compactt.f t430).bind fun t431 => ((q_count.f k (t431.length : Int)).bind fun t434 => (if y414.length + t434.length < 140737488355328 then (q_textBytes.l1 k l1 (y414 ++ t434) t431 (t431.length : Int) 0) else (none)))))))) = some r := by (have H2_ := (Option.bind_some _ _).symm.trans H; rw [hy414]; with_reducible exact H2_)
  have Ny414 := Ak hy414
  clear hy414
  by_cases c5 : (l1.length : Int) = 0
  ·rw [if_pos c5] at H
   have c5b0 : ((l1.length : Int) == 0) = true := beq_iff_eq.mpr c5
   have c5b1 : ((l1.length : Int) != 0) = false := bne_eq_false_iff_eq.mpr c5
   clear c5
   obtain rfl := Option.some.inj H
   go_enter Try.func72, Try.ntmps72
   go_wp2_with (first | ((with_reducible refine gate_dst (N := 17) rfl ?_); refine Kd.R_lit (Kd.int .u8) _ 5 ?hg (N := 17) ?hd (xs := ([(a0) % 256] : List Int)) (inner := [.int .u8 ((a0) % 256)]) (ok := fun _ => True) (okp := fun _ => True) ?hr ?hp (fun _ hk => hk) trivial (Below.refl _ _) (Nat.le_refl _) (by simp) ?_; (case hd => rfl); (case hg => rfl); (case hr => (go_simp; done)); (case hp => exact (Reps.one (show Kd.M (Kd.int .u8) _ _ _ ((a0) % 256) [.int .u8 ((a0) % 256)] from rfl) (Reps.none _ _))); intro v409 w6 ho7 hb hg_ hnew_; clear hg_ hnew_; (rw [← Ny408.out] at ho7); have n0_ := Ak (Kd.R_lower ho7 (below_size (by exact HB.out))); have n1_ := Ak (below_step (by exact HB.out) hb); clear HB; have HO410 := n0_; have HB := n1_; clear n0_ n1_ hb ho7) | ((with_reducible refine gate_callee (f := 55) rfl ?_); refine goesL_ (some 20) rfl rfl Try.func55 (by kernel_rfl) rfl #[.int .i64 (l1.length : Int)] rfl (by (try simp only [lm]); rfl) ?_; (with_reducible refine (q_count.calls k (l1.length : Int) t411 _ A3.out).mono ?_); rintro e w8 ⟨v412, rfl, ho0, hb⟩; refine ⟨_, rfl, ?_⟩; have n0_ := Ak (Kd.R_elder' (by exact HO410.out) (Kd.R_base ho0) hb); have n1_ := Ak (Kd.R_lower (Kd.R_new' ho0 (Kd.R_lt (by exact HO410.out))) (below_size (by exact HB.out))); have n2_ := Ak (below_step (by exact HB.out) hb); clear HO410 HB; have HO410 := n0_; have HO413 := n1_; have HB := n2_; clear n0_ n1_ n2_; (try clear hb); (try clear ho0); obtain ⟨Ao10, co10, eo10⟩ := Kd.R_slice HO413.out; subst eo10) | ((with_reducible refine gate_builtin (b := .append) (xs := #[.tmp 17, .tmp 20]) rfl ?_); at_builtin; refine Kd.R_append_rows (Kd.int .u8) (w0 := w) w.heap.size rfl (.tmp 17) (.tmp 20) 27 5 (.int .u8 0) 1 rfl Try.underlying27 info5 rfl (by decide) (by omega) v409 y408 t411 _ _ _ (fun k_ => some k_ ≠ (.slice Ao10 t411.length co10 : Value).ownBlock) (fun _ => False) rfl rfl ?aO ?aR (fun _ _ h => h) (fun _ h => h.elim) ?aF ?aB ?aS ?aL ?_; (case aR => repeat (exact (Kd.R_reads' HO413.out).2.2)); (case aB => exact (by exact HB.out)); (case aF => exact (fun k_ hk => Kd.fresh' (Kd.R_lt (by exact HO413.out)) k_ hk)); (case aO => exact (by exact Kd.R_mono HO410.out (fun _ hk => hk.2))); (case aS => exact (below_size (by exact HB.out))); (case aL => have := LMc4.out; omega); intro v415 w9 ho hb hg hat; rw [← Ny414.out] at ho; have n0_ := Ak (Kd.R_after (ok := (fun _ => True)) (by exact HO413.out) hg hat); have n1_ := Ak (hb); have n2_ := Ak (ho); clear HO413 HB HO410; have HO413 := n0_; have HB := n1_; have HO416 := n2_; clear n0_ n1_ n2_ ho hb hg hat))
   go_ret
   exact ⟨_, by rfl, by exact Kd.R_mono HO416.out (fun _ hk => trivial), by exact HB.out⟩
  ·rw [if_neg c5] at H
   have c5b0 : ((l1.length : Int) == 0) = false := beq_eq_false_iff_ne.mpr c5
   have c5b1 : ((l1.length : Int) != 0) = true := bne_iff_ne.mpr c5
   have c5b2 : ¬ (l1 = []) := fun h_ => c5 (by rw [h_]; rfl)
   by_cases c11 : a0 = 1
   ·rw [if_pos c11] at H
    have c11b0 : (a0 == 1) = true := beq_iff_eq.mpr c11
    have c11b1 : (a0 != 1) = false := bne_eq_false_iff_eq.mpr c11
    clear c11
    have H' := Ak H
    clear H
    go_enter Try.func72, Try.ntmps72
    go_wp2_with (first | ((with_reducible refine gate_dst (N := 17) rfl ?_); refine Kd.R_lit (Kd.int .u8) _ 5 ?hg (N := 17) ?hd (xs := ([(a0) % 256] : List Int)) (inner := [.int .u8 ((a0) % 256)]) (ok := fun _ => True) (okp := fun _ => True) ?hr ?hp (fun _ hk => hk) trivial (Below.refl _ _) (Nat.le_refl _) (by simp) ?_; (case hd => rfl); (case hg => rfl); (case hr => (go_simp; done)); (case hp => exact (Reps.one (show Kd.M (Kd.int .u8) _ _ _ ((a0) % 256) [.int .u8 ((a0) % 256)] from rfl) (Reps.none _ _))); intro v409 w12 ho13 hb hg_ hnew_; clear hg_ hnew_; (rw [← Ny408.out] at ho13); have n0_ := Ak (Kd.R_lower ho13 (below_size (by exact HB.out))); have n1_ := Ak (below_step (by exact HB.out) hb); clear HB; have HO410 := n0_; have HB := n1_; clear n0_ n1_ hb ho13) | ((with_reducible refine gate_callee (f := 55) rfl ?_); refine goesL_ (some 20) rfl rfl Try.func55 (by kernel_rfl) rfl #[.int .i64 (l1.length : Int)] rfl (by (try simp only [lm]); rfl) ?_; (with_reducible refine (q_count.calls k (l1.length : Int) t411 _ A3.out).mono ?_); rintro e w14 ⟨v412, rfl, ho0, hb⟩; refine ⟨_, rfl, ?_⟩; have n0_ := Ak (Kd.R_elder' (by exact HO410.out) (Kd.R_base ho0) hb); have n1_ := Ak (Kd.R_lower (Kd.R_new' ho0 (Kd.R_lt (by exact HO410.out))) (below_size (by exact HB.out))); have n2_ := Ak (below_step (by exact HB.out) hb); clear HO410 HB; have HO410 := n0_; have HO413 := n1_; have HB := n2_; clear n0_ n1_ n2_; (try clear hb); (try clear ho0); obtain ⟨Ao16, co16, eo16⟩ := Kd.R_slice HO413.out; subst eo16) | ((with_reducible refine gate_builtin (b := .append) (xs := #[.tmp 17, .tmp 20]) rfl ?_); at_builtin; refine Kd.R_append_rows (Kd.int .u8) (w0 := w) w.heap.size rfl (.tmp 17) (.tmp 20) 27 5 (.int .u8 0) 1 rfl Try.underlying27 info5 rfl (by decide) (by omega) v409 y408 t411 _ _ _ (fun k_ => some k_ ≠ (.slice Ao16 t411.length co16 : Value).ownBlock) (fun _ => False) rfl rfl ?aO ?aR (fun _ _ h => h) (fun _ h => h.elim) ?aF ?aB ?aS ?aL ?_; (case aR => repeat (exact (Kd.R_reads' HO413.out).2.2)); (case aB => exact (by exact HB.out)); (case aF => exact (fun k_ hk => Kd.fresh' (Kd.R_lt (by exact HO413.out)) k_ hk)); (case aO => exact (by exact Kd.R_mono HO410.out (fun _ hk => hk.2))); (case aS => exact (below_size (by exact HB.out))); (case aL => have := LMc4.out; omega); intro v415 w15 ho hb hg hat; rw [← Ny414.out] at ho; have n0_ := Ak (Kd.R_after (ok := (fun _ => True)) (by exact HO413.out) hg hat); have n1_ := Ak (hb); have n2_ := Ak (ho); clear HO413 HB HO410; have HO413 := n0_; have HB := n1_; have HO416 := n2_; clear n0_ n1_ n2_ ho hb hg hat))
    go_loopg [5, 30] k (fun kq v5 v30 w' => ∃ (x5_1 : List Int) (x30_1 : Int), v30 = .int .i64 x30_1 ∧ Aside0 (q_textBytes.l0 kq x5_1 l1 (l1.length : Int) x30_1 = some r) ∧ Aside0 (kq ≤ k) ∧ Aside0 (Kd.R (Kd.int .u8) 5 w' w.heap.size (fun _ => True) v5 x5_1) ∧ Aside0 (Below w.heap.size w w'))
    case atStart => exact ⟨(y414), (0), (by rfl), H', ⟨Nat.le_refl _⟩, ⟨by exact Kd.R_mono HO416.out (fun _ hk => trivial)⟩, ⟨by exact HB.out⟩⟩
    case round =>
     clear H'
     try clear c5
     try clear c5b0
     try clear c5b1
     try clear c5b2
     try clear c11b0
     try clear c11b1
     obtain ⟨x5_1, x30_1, rfl, HA, HK1, HO_5, HB⟩ := hrel
     cases gk with
     | zero => exact absurd HA.out (by simp [q_textBytes.l0])
     | succ k1 =>
      have H := HA.out
      clear HA
      simp only [q_textBytes.l0] at H
      by_cases c17 : x30_1 < (l1.length : Int)
      ·rw [if_pos c17] at H
       have c17b0 : decide (x30_1 < (l1.length : Int)) = true := decide_eq_true c17
       clear c17
       by_cases c18 : 0 ≤ x30_1
       ·rw [if_pos c18] at H
        have c18b0 : decide (0 ≤ x30_1) = true := decide_eq_true c18
        clear c18
        by_cases c19 : x30_1 < (l1.length : Int)
        ·rw [if_pos c19] at H
         have c19b0 : decide (x30_1 < (l1.length : Int)) = true := decide_eq_true c19
         clear c19
         replace H := Option.bind_eq_some_iff.mp H
         obtain ⟨t418, A200, H⟩ := H
         replace H : (if x5_1.length + t418.length < 140737488355328 then ((some (x5_1 ++ t418 : List Int)).bind fun y421 => (if y421.length + (rdOf ByteArray.empty l1 x30_1).size < 140737488355328 then (q_textBytes.l0 k1 (y421 ++ bytesOf (rdOf ByteArray.empty l1 x30_1)) l1 (l1.length : Int) (wrap64 (x30_1 + 1))) else (none))) else (none)) = some r := H
         have A20 := Ak A200
         clear A200
         by_cases c21 : x5_1.length + t418.length < 140737488355328
         ·rw [if_pos c21] at H
          have LMc21 := Ak c21
          clear c21
          obtain ⟨y421, hy421⟩ : ∃ y_ : List Int, y_ = (x5_1 ++ t418) := ⟨_, rfl⟩
          replace H : (if y421.length + (rdOf ByteArray.empty l1 x30_1).size < 140737488355328 then (q_textBytes.l0 k1 (y421 ++ bytesOf (rdOf ByteArray.empty l1 x30_1)) l1 (l1.length : Int) (wrap64 (x30_1 + 1))) else (none)) = some r := by (have H2_ := (Option.bind_some _ _).symm.trans H; rw [hy421]; with_reducible exact H2_)
          have Ny421 := Ak hy421
          clear hy421
          by_cases c22 : y421.length + (rdOf ByteArray.empty l1 x30_1).size < 140737488355328
          ·rw [if_pos c22] at H
           have LMc22 := Ak c22
           clear c22
           obtain ⟨y424, hy424⟩ : ∃ y_ : List Int, y_ = (y421 ++ bytesOf (rdOf ByteArray.empty l1 x30_1)) := ⟨_, rfl⟩
           replace H : (q_textBytes.l0 k1 y424 l1 (l1.length : Int) (wrap64 (x30_1 + 1))) = some r := by (rw [hy424]; with_reducible exact H)
           have Ny424 := Ak hy424
           clear hy424
           have H' := Ak H
           clear H
           have p417 : 0 ≤ (x30_1 : Int) := of_decide_eq_true (by (with_reducible assumption))
           have q417 : x30_1 < (l1.length : Int) := of_decide_eq_true (by (with_reducible assumption))
           obtain ⟨ad417, e417, hx417_0⟩ := Kd.at_string HR1.out x30_1 p417 q417
           cases e417
           replace hx417_0 := (HB.out.cell (World.block_lt_of_cell? w _ hx417_0)).trans hx417_0
           replace p417 := eq_true p417
           replace q417 := eq_true q417
           go_wp2_with (first | ((with_reducible refine gate_callee (f := 55) rfl ?_); refine goesL_ (some 37) rfl rfl Try.func55 (by kernel_rfl) rfl #[.int .i64 ((rdOf ByteArray.empty l1 x30_1).size : Int)] rfl (by (try simp only [lm]); rfl) ?_; (with_reducible refine (q_count.calls k1 ((rdOf ByteArray.empty l1 x30_1).size : Int) t418 _ A20.out).mono ?_); rintro e w23 ⟨v419, rfl, ho0, hb⟩; refine ⟨_, rfl, ?_⟩; have n0_ := Ak (Kd.R_elder' (by exact HO_5.out) (Kd.R_base ho0) hb); have n1_ := Ak (Kd.R_lower (Kd.R_new' ho0 (Kd.R_lt (by exact HO_5.out))) (below_size (by exact HB.out))); have n2_ := Ak (below_step (by exact HB.out) hb); clear HO_5 HB; have HO_5 := n0_; have HO420 := n1_; have HB := n2_; clear n0_ n1_ n2_; (try clear hb); (try clear ho0); obtain ⟨Ao25, co25, eo25⟩ := Kd.R_slice HO420.out; subst eo25) | ((with_reducible refine gate_builtin (b := .append) (xs := #[.tmp 34, .tmp 37]) rfl ?_); at_builtin; refine Kd.R_append_rows (Kd.int .u8) (w0 := w) w.heap.size rfl (.tmp 34) (.tmp 37) 27 5 (.int .u8 0) 1 rfl Try.underlying27 info5 rfl (by decide) (by omega) u5 x5_1 t418 _ _ _ (fun k_ => some k_ ≠ (.slice Ao25 t418.length co25 : Value).ownBlock) (fun _ => False) rfl rfl ?aO ?aR (fun _ _ h => h) (fun _ h => h.elim) ?aF ?aB ?aS ?aL ?_; (case aR => repeat (exact (Kd.R_reads' HO420.out).2.2)); (case aB => exact (by exact HB.out)); (case aF => exact (fun k_ hk => Kd.fresh' (Kd.R_lt (by exact HO420.out)) k_ hk)); (case aO => exact (by exact Kd.R_mono HO_5.out (fun _ hk => hk.2))); (case aS => exact (below_size (by exact HB.out))); (case aL => have := LMc21.out; omega); intro v422 w24 ho hb hg hat; rw [← Ny421.out] at ho; have n0_ := Ak (Kd.R_after (ok := (fun _ => True)) (by exact HO420.out) hg hat); have n1_ := Ak (hb); have n2_ := Ak (ho); clear HO420 HB HO_5; have HO420 := n0_; have HB := n1_; have HO423 := n2_; clear n0_ n1_ n2_ ho hb hg hat) | (at_builtin; refine Kd.R_append_str (w0 := w) w.heap.size rfl (.tmp 38) _ 27 9 5 rfl Try.underlying27 Try.underlying9 info5 v422 y421 (rdOf ByteArray.empty l1 x30_1) (fun k_ => some k_ ≠ (.slice Ao25 t418.length co25 : Value).ownBlock) rfl (by rfl) ?aF ?aO ?aB ?aS ?aL ?_; (case aB => exact (by exact HB.out)); (case aF => exact (fun k_ hk => Kd.fresh' (Kd.R_lt (by exact HO420.out)) k_ hk)); (case aO => exact (by exact HO423.out)); (case aS => exact (below_size (by exact HB.out))); (case aL => have := LMc22.out; omega); intro v425 w26 ho hb hg hat; rw [← Ny424.out] at ho; have n0_ := Ak (Kd.R_after (ok := (fun _ => True)) (by exact HO420.out) hg hat); have n1_ := Ak (hb); have n2_ := Ak (ho); clear HO420 HB HO423; have HO420 := n0_; have HB := n1_; have HO426 := n2_; clear n0_ n1_ n2_ ho hb hg hat))
           go_roundg k1
           case measure => have := HK1.out; omega
           case rel => exact ⟨(y424), (wrap64 (x30_1 + 1)), (by rfl), H', ⟨by have := HK1.out; omega⟩, ⟨by exact Kd.R_mono HO426.out (fun _ hk => trivial)⟩, ⟨by exact HB.out⟩⟩
          ·rw [if_neg c22] at H
           exact absurd H (by simp)
         ·rw [if_neg c21] at H
          exact absurd H (by simp)
        ·rw [if_neg c19] at H
         exact absurd H (by simp)
       ·rw [if_neg c18] at H
        exact absurd H (by simp)
      ·rw [if_neg c17] at H
       have c17b0 : decide (x30_1 < (l1.length : Int)) = false := decide_eq_false c17
       clear c17
       obtain rfl := Option.some.inj H
       go_wp2
       go_ret
       exact ⟨_, by rfl, by exact HO_5.out, by exact HB.out⟩
   ·rw [if_neg c11] at H
    have c11b0 : (a0 == 1) = false := beq_eq_false_iff_ne.mpr c11
    have c11b1 : (a0 != 1) = true := bne_iff_ne.mpr c11
    replace H := Option.bind_eq_some_iff.mp H
    obtain ⟨t427, A270, H⟩ := H
    replace H : ((s_Sortt.f t427).bind fun t430 => ((s_Compactt.f t430).bind fun t431 => ((q_count.f k (t431.length : Int)).bind fun t434 => (if y414.length + t434.length < 140737488355328 then (q_textBytes.l1 k l1 (y414 ++ t434) t431 (t431.length : Int) 0) else (none))))) = some r := H
    have A27 := Ak A270
    clear A270
    replace H := Option.bind_eq_some_iff.mp H
    obtain ⟨t430, A280, H⟩ := H
    replace H : ((s_Compactt.f t430).bind fun t431 => ((q_count.f k (t431.length : Int)).bind fun t434 => (if y414.length + t434.length < 140737488355328 then (q_textBytes.l1 k l1 (y414 ++ t434) t431 (t431.length : Int) 0) else (none)))) = some r := H
    have A28 := Ak A280
    clear A280
    replace H := Option.bind_eq_some_iff.mp H
    obtain ⟨t431, A290, H⟩ := H
    replace H : ((q_count.f k (t431.length : Int)).bind fun t434 => (if y414.length + t434.length < 140737488355328 then (q_textBytes.l1 k l1 (y414 ++ t434) t431 (t431.length : Int) 0) else (none))) = some r := H
    have A29 := Ak A290
    clear A290
    replace H := Option.bind_eq_some_iff.mp H
    obtain ⟨t434, A300, H⟩ := H
    replace H : (if y414.length + t434.length < 140737488355328 then (q_textBytes.l1 k l1 (y414 ++ t434) t431 (t431.length : Int) 0) else (none)) = some r := H
    have A30 := Ak A300
    clear A300
    by_cases c31 : y414.length + t434.length < 140737488355328
    ·rw [if_pos c31] at H
     have LMc31 := Ak c31
     clear c31
     obtain ⟨y437, hy437⟩ : ∃ y_ : List Int, y_ = (y414 ++ t434) := ⟨_, rfl⟩
     replace H : (q_textBytes.l1 k l1 y437 t431 (t431.length : Int) 0) = some r := by (rw [hy437]; with_reducible exact H)
     have Ny437 := Ak hy437
     clear hy437
     have H' := Ak H
     clear H
     go_enter Try.func72, Try.ntmps72
     go_wp2_with (first | ((with_reducible refine gate_dst (N := 17) rfl ?_); refine Kd.R_lit (Kd.int .u8) _ 5 ?hg (N := 17) ?hd (xs := ([(a0) % 256] : List Int)) (inner := [.int .u8 ((a0) % 256)]) (ok := fun _ => True) (okp := fun _ => True) ?hr ?hp (fun _ hk => hk) trivial (Below.refl _ _) (Nat.le_refl _) (by simp) ?_; (case hd => rfl); (case hg => rfl); (case hr => (go_simp; done)); (case hp => exact (Reps.one (show Kd.M (Kd.int .u8) _ _ _ ((a0) % 256) [.int .u8 ((a0) % 256)] from rfl) (Reps.none _ _))); intro v409 w32 ho33 hb hg_ hnew_; clear hg_ hnew_; (rw [← Ny408.out] at ho33); have n0_ := Ak (Kd.R_lower ho33 (below_size (by exact HB.out))); have n1_ := Ak (below_step (by exact HB.out) hb); clear HB; have HO410 := n0_; have HB := n1_; clear n0_ n1_ hb ho33) | ((with_reducible refine gate_callee (f := 55) rfl ?_); refine goesL_ (some 20) rfl rfl Try.func55 (by kernel_rfl) rfl #[.int .i64 (l1.length : Int)] rfl (by (try simp only [lm]); rfl) ?_; (with_reducible refine (q_count.calls k (l1.length : Int) t411 _ A3.out).mono ?_); rintro e w34 ⟨v412, rfl, ho0, hb⟩; refine ⟨_, rfl, ?_⟩; have n0_ := Ak (Kd.R_elder' (by exact HO410.out) (Kd.R_base ho0) hb); have n1_ := Ak (Kd.R_lower (Kd.R_new' ho0 (Kd.R_lt (by exact HO410.out))) (below_size (by exact HB.out))); have n2_ := Ak (below_step (by exact HB.out) hb); clear HO410 HB; have HO410 := n0_; have HO413 := n1_; have HB := n2_; clear n0_ n1_ n2_; (try clear hb); (try clear ho0); obtain ⟨Ao36, co36, eo36⟩ := Kd.R_slice HO413.out; subst eo36) | ((with_reducible refine gate_builtin (b := .append) (xs := #[.tmp 17, .tmp 20]) rfl ?_); at_builtin; refine Kd.R_append_rows (Kd.int .u8) (w0 := w) w.heap.size rfl (.tmp 17) (.tmp 20) 27 5 (.int .u8 0) 1 rfl Try.underlying27 info5 rfl (by decide) (by omega) v409 y408 t411 _ _ _ (fun k_ => some k_ ≠ (.slice Ao36 t411.length co36 : Value).ownBlock) (fun _ => False) rfl rfl ?aO ?aR (fun _ _ h => h) (fun _ h => h.elim) ?aF ?aB ?aS ?aL ?_; (case aR => repeat (exact (Kd.R_reads' HO413.out).2.2)); (case aB => exact (by exact HB.out)); (case aF => exact (fun k_ hk => Kd.fresh' (Kd.R_lt (by exact HO413.out)) k_ hk)); (case aO => exact (by exact Kd.R_mono HO410.out (fun _ hk => hk.2))); (case aS => exact (below_size (by exact HB.out))); (case aL => have := LMc4.out; omega); intro v415 w35 ho hb hg hat; rw [← Ny414.out] at ho; have n0_ := Ak (Kd.R_after (ok := (fun _ => True)) (by exact HO413.out) hg hat); have n1_ := Ak (hb); have n2_ := Ak (ho); clear HO413 HB HO410; have HO413 := n0_; have HB := n1_; have HO416 := n2_; clear n0_ n1_ n2_ ho hb hg hat) | ((with_reducible refine gate_callee (f := 93) rfl ?_); refine goesL_ (some 44) rfl rfl Try.func93 (by kernel_rfl) rfl #[.slice A1 l1.length c1] rfl (by (try simp only [lm]); rfl) ?_; (with_reducible refine (s_Clonet.calls _ _ l1 t427 _ ?side1 ?side2 A27.out).mono ?_); (case side1 => repeat (exact (Kd.C_below HR1.out HB.out))); (case side2 => exact HC1.out); rintro e w37 ⟨v428, rfl, ho0, hb⟩; refine ⟨_, rfl, ?_⟩; have n0_ := Ak (Kd.R_below (by exact HO413.out) hb); have n1_ := Ak (Kd.R_below (by exact HO416.out) hb); have n2_ := Ak (Kd.R_lower ho0 (below_size (by exact HB.out))); have n3_ := Ak (below_step (by exact HB.out) hb); clear HO413 HO416 HB; have HO413 := n0_; have HO416 := n1_; have HO429 := n2_; have HB := n3_; clear n0_ n1_ n2_ n3_; (try clear hb); (try clear ho0); obtain ⟨Ao38, co38, eo38⟩ := Kd.R_slice HO429.out; subst eo38) | ((with_reducible refine gate_callee (f := 94) rfl ?_); refine goesL_ (some 46) rfl rfl Try.func94 (by kernel_rfl) rfl #[.slice Ao38 t427.length co38] rfl (by (try simp only [lm]); rfl) ?_; (with_reducible refine (s_Sortt.calls (fun k_ => some k_ = (.slice Ao38 t427.length co38 : Value).ownBlock) (.slice Ao38 t427.length co38) t427 t430 w _ ?side1 ?side2 A28.out).mono ?_); (case side1 => exact HB.out); (case side2 => exact Kd.R_tight rfl HO429.out); rintro e w39 ⟨rfl, hy0, hb, hkp⟩; refine ⟨_, rfl, ?_⟩; have n0_ := Ak (Kd.R_mono (ok' := fun k_ => some k_ ≠ (v415 : Value).ownBlock) (Kd.R_keptB ((Kd.R_apart' HO413.out (Kd.R_typed HO429.out) (by decide))) hkp (fun k_ hk_ hs_ => (hk_.2) hs_)) (fun k_ hk_ => hk_.1.1.2)); have n1_ := Ak (Kd.R_mono (ok' := fun k_ => some k_ ≠ (.slice Ao36 t411.length co36 : Value).ownBlock) (Kd.R_keptB ((Kd.R_apart' HO416.out (Kd.R_typed HO429.out) (by decide))) hkp (fun k_ hk_ hs_ => (hk_.2) hs_)) (fun k_ hk_ => hk_.1.1)); have n2_ := Ak (Kd.R_reok rfl hy0 (fun k_ e_ => HO429.out.1 k_ e_)); have n3_ := Ak (hb); clear HO413 HO416 HO429 HB; have HO413 := n0_; have HO416 := n1_; have HO429 := n2_; have HB := n3_; clear n0_ n1_ n2_ n3_; (try clear hb); (try clear hkp); (try clear hy0)) | ((with_reducible refine gate_callee (f := 95) rfl ?_); refine goesL_ (some 48) rfl rfl Try.func95 (by kernel_rfl) rfl #[.slice Ao38 t427.length co38] rfl (by (try simp only [lm]); rfl) ?_; (with_reducible refine (s_Compactt.calls (fun k_ => some k_ = (.slice Ao38 t427.length co38 : Value).ownBlock) (.slice Ao38 t427.length co38) t430 t431 w _ ?side1 ?side2 A29.out).mono ?_); (case side1 => exact HB.out); (case side2 => exact Kd.R_tight rfl HO429.out); rintro e w40 ⟨v432, rfl, ho0, hb, hkp⟩; refine ⟨_, rfl, ?_⟩; have n0_ := Ak (Kd.R_mono (ok' := fun k_ => some k_ ≠ (v415 : Value).ownBlock) (Kd.R_keptB ((Kd.R_apart' HO413.out (Kd.R_typed HO429.out) (by decide))) hkp (fun k_ hk_ hs_ => (hk_.2) hs_)) (fun k_ hk_ => hk_.1.1)); have n1_ := Ak (Kd.R_mono (ok' := fun k_ => some k_ ≠ (.slice Ao36 t411.length co36 : Value).ownBlock) (Kd.R_keptB ((Kd.R_apart' HO416.out (Kd.R_typed HO429.out) (by decide))) hkp (fun k_ hk_ hs_ => (hk_.2) hs_)) (fun k_ hk_ => hk_.1.1)); have n2_ := Ak (Kd.R_mono (ok' := fun k_ => True) ho0 (fun k_ hk_ => trivial)); have n3_ := Ak (hb); clear HO413 HO416 HB HO429; have HO413 := n0_; have HO416 := n1_; have HO433 := n2_; have HB := n3_; clear n0_ n1_ n2_ n3_; (try clear hb); (try clear hkp); (try clear ho0); obtain ⟨Ao41, co41, eo41⟩ := Kd.R_slice HO433.out; subst eo41) | ((with_reducible refine gate_callee (f := 55) rfl ?_); refine goesL_ (some 52) rfl rfl Try.func55 (by kernel_rfl) rfl #[.int .i64 (t431.length : Int)] rfl (by (try simp only [lm]); rfl) ?_; (with_reducible refine (q_count.calls k (t431.length : Int) t434 _ A30.out).mono ?_); rintro e w42 ⟨v435, rfl, ho0, hb⟩; refine ⟨_, rfl, ?_⟩; have n0_ := Ak (Kd.R_elder' (by exact HO413.out) (Kd.R_base ho0) hb); have n1_ := Ak (Kd.R_elder' (by exact HO416.out) (Kd.R_base ho0) hb); have n2_ := Ak (Kd.R_below (by exact HO433.out) hb); have n3_ := Ak (Kd.R_lower (Kd.R_new' (Kd.R_new' ho0 (Kd.R_lt (by exact HO413.out))) (Kd.R_lt (by exact HO416.out))) (below_size (by exact HB.out))); have n4_ := Ak (below_step (by exact HB.out) hb); clear HO413 HO416 HO433 HB; have HO413 := n0_; have HO416 := n1_; have HO433 := n2_; have HO436 := n3_; have HB := n4_; clear n0_ n1_ n2_ n3_ n4_; (try clear hb); (try clear ho0); obtain ⟨Ao44, co44, eo44⟩ := Kd.R_slice HO436.out; subst eo44) | ((with_reducible refine gate_builtin (b := .append) (xs := #[.tmp 49, .tmp 52]) rfl ?_); at_builtin; refine Kd.R_append_rows (Kd.int .u8) (w0 := w) w.heap.size rfl (.tmp 49) (.tmp 52) 27 5 (.int .u8 0) 1 rfl Try.underlying27 info5 rfl (by decide) (by omega) v415 y414 t434 _ _ _ (fun k_ => some k_ ≠ (.slice Ao36 t411.length co36 : Value).ownBlock ∧ some k_ ≠ (.slice Ao44 t434.length co44 : Value).ownBlock) (fun _ => False) rfl rfl ?aO ?aR (fun _ _ h => h) (fun _ h => h.elim) ?aF ?aB ?aS ?aL ?_; (case aR => repeat (exact (Kd.R_reads' HO436.out).2.2)); (case aB => exact (by exact HB.out)); (case aF => exact (fun k_ hk => ⟨Kd.fresh' (Kd.R_lt (by exact HO413.out)) k_ hk, Kd.fresh' (Kd.R_lt (by exact HO436.out)) k_ hk⟩)); (case aO => exact (by exact HO416.out)); (case aS => exact (below_size (by exact HB.out))); (case aL => have := LMc31.out; omega); intro v438 w43 ho hb hg hat; rw [← Ny437.out] at ho; have n0_ := Ak (Kd.R_after (ok := (fun k_ => some k_ ≠ (.slice Ao44 t434.length co44 : Value).ownBlock)) (by exact Kd.R_mono HO413.out (fun _ hk => ⟨hk.2, hk.1⟩)) hg hat); have n1_ := Ak (Kd.R_over' (by exact HO433.out) (Kd.R_typed (by exact HO416.out)) (by decide) hg); have n2_ := Ak (Kd.R_after (ok := (fun k_ => some k_ ≠ (.slice Ao36 t411.length co36 : Value).ownBlock)) (by exact Kd.R_mono HO436.out (fun _ hk => ⟨hk.1.2, hk.2⟩)) hg hat); have n3_ := Ak (hb); have n4_ := Ak (ho); clear HO413 HO433 HO436 HB HO416; have HO413 := n0_; have HO433 := n1_; have HO436 := n2_; have HB := n3_; have HO439 := n4_; clear n0_ n1_ n2_ n3_ n4_ ho hb hg hat))
     go_loopg [5, 56] k (fun kq v5 v56 w' => ∃ (x5_1 : List Int) (x56_1 : Int), v56 = .int .i64 x56_1 ∧ Aside0 (q_textBytes.l1 kq l1 x5_1 t431 (t431.length : Int) x56_1 = some r) ∧ Aside0 (kq ≤ k) ∧ Aside0 (Kd.R (Kd.int .u8) 5 w' w.heap.size (fun _ => True) v5 x5_1) ∧ Aside0 (Kd.R Kd.string 9 w' w.heap.size (fun _ => True) (.slice Ao41 t431.length co41) t431) ∧ Aside0 (Below w.heap.size w w'))
     case atStart => exact ⟨(y437), (0), (by rfl), H', ⟨Nat.le_refl _⟩, ⟨by exact Kd.R_mono HO439.out (fun _ hk => trivial)⟩, ⟨by exact HO433.out⟩, ⟨by exact HB.out⟩⟩
     case round =>
      clear H'
      try clear c5
      try clear c5b0
      try clear c5b1
      try clear c5b2
      try clear c11
      try clear c11b0
      try clear c11b1
      obtain ⟨x5_1, x56_1, rfl, HA, HK1, HO_5, HO_8, HB⟩ := hrel
      cases gk with
      | zero => exact absurd HA.out (by simp [q_textBytes.l1])
      | succ k1 =>
       have H := HA.out
       clear HA
       simp only [q_textBytes.l1] at H
       by_cases c45 : x56_1 < (t431.length : Int)
       ·rw [if_pos c45] at H
        have c45b0 : decide (x56_1 < (t431.length : Int)) = true := decide_eq_true c45
        clear c45
        by_cases c46 : 0 ≤ x56_1
        ·rw [if_pos c46] at H
         have c46b0 : decide (0 ≤ x56_1) = true := decide_eq_true c46
         clear c46
         by_cases c47 : x56_1 < (t431.length : Int)
         ·rw [if_pos c47] at H
          have c47b0 : decide (x56_1 < (t431.length : Int)) = true := decide_eq_true c47
          clear c47
          by_cases c48 : x56_1 > 0
          ·rw [if_pos c48] at H
           have c48b0 : decide (0 < x56_1) = true := decide_eq_true c48
           clear c48
           obtain ⟨ji49, hji49⟩ : ∃ j_ : Int, (wrap64 (x56_1 - 1)) = j_ := ⟨_, rfl⟩
           replace H : (if 0 ≤ (ji49) then (if (ji49) < (t431.length : Int) then ((q_alike.f k1 (rdOf ByteArray.empty t431 (ji49)) (rdOf ByteArray.empty t431 x56_1)).bind fun t442 => ((q_count.f k1 t442).bind fun t443 => (if x5_1.length + t443.length < 140737488355328 then ((some (x5_1 ++ t443 : List Int)).bind fun y446 => ((q_count.f k1 (wrap64 (((rdOf ByteArray.empty t431 x56_1).size : Int) - t442))).bind fun t449 => (if y446.length + t449.length < 140737488355328 then ((some (y446 ++ t449 : List Int)).bind fun y452 => (if 0 ≤ t442 then (if t442 ≤ ((rdOf ByteArray.empty t431 x56_1).size : Int) then (if y452.length + ((rdOf ByteArray.empty t431 x56_1).extract (t442 : Int).toNat (rdOf ByteArray.empty t431 x56_1).size).size < 140737488355328 then (q_textBytes.l1 k1 l1 (y452 ++ bytesOf ((rdOf ByteArray.empty t431 x56_1).extract (t442 : Int).toNat (rdOf ByteArray.empty t431 x56_1).size)) t431 (t431.length : Int) (wrap64 (x56_1 + 1))) else (none)) else (none)) else (none))) else (none)))) else (none)))) else (none)) else (none)) = some r := by (rw [hji49] at H; exact H)
           have hji49w : (IntKind.i64.wrap (x56_1 - 1)) = ji49 := (i64_w _).trans hji49
           by_cases c50 : 0 ≤ (ji49)
           ·rw [if_pos c50] at H
            have c50b0 : decide (0 ≤ (ji49)) = true := decide_eq_true c50
            clear c50
            by_cases c51 : (ji49) < (t431.length : Int)
            ·rw [if_pos c51] at H
             have c51b0 : decide ((ji49) < (t431.length : Int)) = true := decide_eq_true c51
             clear c51
             replace H := Option.bind_eq_some_iff.mp H
             obtain ⟨t442, A520, H⟩ := H
             replace H : ((q_count.f k1 t442).bind fun t443 => (if x5_1.length + t443.length < 140737488355328 then ((some (x5_1 ++ t443 : List Int)).bind fun y446 => ((q_count.f k1 (wrap64 (((rdOf ByteArray.empty t431 x56_1).size : Int) - t442))).bind fun t449 => (if y446.length + t449.length < 140737488355328 then ((some (y446 ++ t449 : List Int)).bind fun y452 => (if 0 ≤ t442 then (if t442 ≤ ((rdOf ByteArray.empty t431 x56_1).size : Int) then (if y452.length + ((rdOf ByteArray.empty t431 x56_1).extract (t442 : Int).toNat (rdOf ByteArray.empty t431 x56_1).size).size < 140737488355328 then (q_textBytes.l1 k1 l1 (y452 ++ bytesOf ((rdOf ByteArray.empty t431 x56_1).extract (t442 : Int).toNat (rdOf ByteArray.empty t431 x56_1).size)) t431 (t431.length : Int) (wrap64 (x56_1 + 1))) else (none)) else (none)) else (none))) else (none)))) else (none))) = some r := H
             have A52 := Ak A520
             clear A520
             replace H := Option.bind_eq_some_iff.mp H
             obtain ⟨t443, A530, H⟩ := H
             replace H : (if x5_1.length + t443.length < 140737488355328 then ((some (x5_1 ++ t443 : List Int)).bind fun y446 => ((q_count.f k1 (wrap64 (((rdOf ByteArray.empty t431 x56_1).size : Int) - t442))).bind fun t449 => (if y446.length + t449.length < 140737488355328 then ((some (y446 ++ t449 : List Int)).bind fun y452 => (if 0 ≤ t442 then (if t442 ≤ ((rdOf ByteArray.empty t431 x56_1).size : Int) then (if y452.length + ((rdOf ByteArray.empty t431 x56_1).extract (t442 : Int).toNat (rdOf ByteArray.empty t431 x56_1).size).size < 140737488355328 then (q_textBytes.l1 k1 l1 (y452 ++ bytesOf ((rdOf ByteArray.empty t431 x56_1).extract (t442 : Int).toNat (rdOf ByteArray.empty t431 x56_1).size)) t431 (t431.length : Int) (wrap64 (x56_1 + 1))) else (none)) else (none)) else (none))) else (none)))) else (none)) = some r := H
             have A53 := Ak A530
             clear A530
             by_cases c54 : x5_1.length + t443.length < 140737488355328
             ·rw [if_pos c54] at H
              have LMc54 := Ak c54
              clear c54
              obtain ⟨y446, hy446⟩ : ∃ y_ : List Int, y_ = (x5_1 ++ t443) := ⟨_, rfl⟩
              replace H : ((q_count.f k1 (wrap64 (((rdOf ByteArray.empty t431 x56_1).size : Int) - t442))).bind fun t449 => (if y446.length + t449.length < 140737488355328 then ((some (y446 ++ t449 : List Int)).bind fun y452 => (if 0 ≤ t442 then (if t442 ≤ ((rdOf ByteArray.empty t431 x56_1).size : Int) then (if y452.length + ((rdOf ByteArray.empty t431 x56_1).extract (t442 : Int).toNat (rdOf ByteArray.empty t431 x56_1).size).size < 140737488355328 then (q_textBytes.l1 k1 l1 (y452 ++ bytesOf ((rdOf ByteArray.empty t431 x56_1).extract (t442 : Int).toNat (rdOf ByteArray.empty t431 x56_1).size)) t431 (t431.length : Int) (wrap64 (x56_1 + 1))) else (none)) else (none)) else (none))) else (none))) = some r := by (have H2_ := (Option.bind_some _ _).symm.trans H; rw [hy446]; with_reducible exact H2_)
              have Ny446 := Ak hy446
              clear hy446
              replace H := Option.bind_eq_some_iff.mp H
              obtain ⟨t449, A550, H⟩ := H
              replace H : (if y446.length + t449.length < 140737488355328 then ((some (y446 ++ t449 : List Int)).bind fun y452 => (if 0 ≤ t442 then (if t442 ≤ ((rdOf ByteArray.empty t431 x56_1).size : Int) then (if y452.length + ((rdOf ByteArray.empty t431 x56_1).extract (t442 : Int).toNat (rdOf ByteArray.empty t431 x56_1).size).size < 140737488355328 then (q_textBytes.l1 k1 l1 (y452 ++ bytesOf ((rdOf ByteArray.empty t431 x56_1).extract (t442 : Int).toNat (rdOf ByteArray.empty t431 x56_1).size)) t431 (t431.length : Int) (wrap64 (x56_1 + 1))) else (none)) else (none)) else (none))) else (none)) = some r := H
              have A55 := Ak A550
              clear A550
              by_cases c56 : y446.length + t449.length < 140737488355328
              ·rw [if_pos c56] at H
               have LMc56 := Ak c56
               clear c56
               obtain ⟨y452, hy452⟩ : ∃ y_ : List Int, y_ = (y446 ++ t449) := ⟨_, rfl⟩
               replace H : (if 0 ≤ t442 then (if t442 ≤ ((rdOf ByteArray.empty t431 x56_1).size : Int) then (if y452.length + ((rdOf ByteArray.empty t431 x56_1).extract (t442 : Int).toNat (rdOf ByteArray.empty t431 x56_1).size).size < 140737488355328 then (q_textBytes.l1 k1 l1 (y452 ++ bytesOf ((rdOf ByteArray.empty t431 x56_1).extract (t442 : Int).toNat (rdOf ByteArray.empty t431 x56_1).size)) t431 (t431.length : Int) (wrap64 (x56_1 + 1))) else (none)) else (none)) else (none)) = some r := by (have H2_ := (Option.bind_some _ _).symm.trans H; rw [hy452]; with_reducible exact H2_)
               have Ny452 := Ak hy452
               clear hy452
               by_cases c57 : 0 ≤ t442
               ·rw [if_pos c57] at H
                have c57b0 := eq_true c57
                have c57b1 : decide (0 ≤ t442) = true := decide_eq_true c57
                clear c57
                by_cases c58 : t442 ≤ ((rdOf ByteArray.empty t431 x56_1).size : Int)
                ·rw [if_pos c58] at H
                 have c58b0 := eq_true c58
                 have c58b1 : decide (t442 ≤ ((rdOf ByteArray.empty t431 x56_1).size : Int)) = true := decide_eq_true c58
                 clear c58
                 by_cases c59 : y452.length + ((rdOf ByteArray.empty t431 x56_1).extract (t442 : Int).toNat (rdOf ByteArray.empty t431 x56_1).size).size < 140737488355328
                 ·rw [if_pos c59] at H
                  have LMc59 := Ak c59
                  clear c59
                  obtain ⟨y455, hy455⟩ : ∃ y_ : List Int, y_ = (y452 ++ bytesOf ((rdOf ByteArray.empty t431 x56_1).extract (t442 : Int).toNat (rdOf ByteArray.empty t431 x56_1).size)) := ⟨_, rfl⟩
                  replace H : (q_textBytes.l1 k1 l1 y455 t431 (t431.length : Int) (wrap64 (x56_1 + 1))) = some r := by (rw [hy455]; with_reducible exact H)
                  have Ny455 := Ak hy455
                  clear hy455
                  have H' := Ak H
                  clear H
                  have p440 : 0 ≤ (x56_1 : Int) := of_decide_eq_true (by (with_reducible assumption))
                  have q440 : x56_1 < (t431.length : Int) := of_decide_eq_true (by (with_reducible assumption))
                  obtain ⟨ad440, e440, hx440_0⟩ := Kd.at_string (Kd.R_reads' HO_8.out).2.2 x56_1 p440 q440
                  cases e440
                  replace p440 := eq_true p440
                  replace q440 := eq_true q440
                  have p441 : 0 ≤ ((ji49) : Int) := of_decide_eq_true (by (with_reducible assumption))
                  have q441 : (ji49) < (t431.length : Int) := of_decide_eq_true (by (with_reducible assumption))
                  obtain ⟨ad441, e441, hx441_0⟩ := Kd.at_string (Kd.R_reads' HO_8.out).2.2 (ji49) p441 q441
                  obtain rfl : ad440 = ad441 := (by injection e441)
                  replace p441 := eq_true p441
                  replace q441 := eq_true q441
                  try go_wp2_with (first | ((with_reducible refine gate_callee (f := 101) rfl ?_); refine goesL_ (some 69) rfl rfl Try.func101 (by kernel_rfl) rfl #[.string (rdOf ByteArray.empty t431 (ji49)), .string (rdOf ByteArray.empty t431 x56_1)] rfl (by (try simp only [lm]); rfl) ?_; (with_reducible refine (q_alike.calls k1 (rdOf ByteArray.empty t431 (ji49)) (rdOf ByteArray.empty t431 x56_1) t442 _ A52.out).mono ?_); rintro e w' ⟨rfl, ⟨nd, rfl⟩⟩; refine ⟨_, rfl, ?_⟩))
                  (try (rw [drewN_self wr]; generalize hq_ : World.drewN wr _ = wr; have n0_ : Aside0 (Kd.R (Kd.int .u8) 5 wr w.heap.size (fun _ => True) u5 x5_1) := ⟨by rw [← hq_]; exact (by (with_reducible repeat (apply Kd.R_drewN)); exact HO_5.out)⟩; have n1_ : Aside0 (Kd.R Kd.string 9 wr w.heap.size (fun _ => True) (.slice (some ad440) t431.length co41) t431) := ⟨by rw [← hq_]; exact (by (with_reducible repeat (apply Kd.R_drewN)); exact HO_8.out)⟩; have n2_ : Aside0 (Below w.heap.size w wr) := ⟨by rw [← hq_]; exact (by repeat ((with_reducible first | exact HB.out | apply pw_below_drewN)))⟩; clear HO_5 HO_8 HB hq_; have HO_5 := n0_; have HO_8 := n1_; have HB := n2_; clear n0_ n1_ n2_))
                  have n0_ := Ak (Kd.R_drew HO_5.out)
                  have n1_ := Ak (Kd.R_drew HO_8.out)
                  have n2_ := Ak (below_drew1 HB.out)
                  clear HO_5 HO_8 HB
                  have HO_5 := n0_
                  have HO_8 := n1_
                  have HB := n2_
                  clear n0_ n1_ n2_
                  refine start_ (n := 15) (S := fun w' => True) (ds := []) #[false, false, false, false, false, false, false, false, false, false, false, false, false, false, false] (by kernel_rfl) rfl rfl trivial (fun hHeld => ?_); refine with_tabW q_textBytes.tab21 q_textBytes.bits21 (fun HT_ HW_ => ?_)
                  generalize wr.drew = w60 at HO_5 HO_8 HB hHeld ⊢
                  refine pure_ (i := 0) (N := some 70) (v := ?_) (a' := ?_) #[true, false, false, false, false, false, false, false, false, false, false, false, false, false, false] rfl rfl (any_of HT_.out (by kernel_rfl)) (fun _ _ _ h => h) (Or.inl ⟨by rfl, ?_⟩) ?_ ?_
                  rotate_left
                  ·intro w'
                   go_simp
                   with_reducible rfl
                  rotate_left
                  ·simp only [Act.put, List.setIfInBounds_toArray, List.set_cons_zero, List.set_cons_succ, i64_w, i32_w]
                   rfl
                  refine pure_ (i := 1) (N := some 71) (v := ?_) (a' := ?_) #[true, true, false, false, false, false, false, false, false, false, false, false, false, false, false] rfl rfl (any_of HT_.out (by kernel_rfl)) (fun _ _ _ h => h) (Or.inl ⟨by rfl, ?_⟩) ?_ ?_
                  rotate_left
                  ·intro w'
                   go_simp
                   with_reducible rfl
                  rotate_left
                  ·simp only [Act.put, List.setIfInBounds_toArray, List.set_cons_zero, List.set_cons_succ, i64_w, i32_w]
                   rfl
                  refine pure_ (i := 4) (N := some 74) (v := ?_) (a' := ?_) #[true, true, false, false, true, false, false, false, false, false, false, false, false, false, false] rfl rfl (any_of HT_.out (by kernel_rfl)) (fun _ _ _ h => h) (Or.inl ⟨by rfl, ?_⟩) ?_ ?_
                  rotate_left
                  ·intro w'
                   go_simp
                   with_reducible rfl
                  rotate_left
                  ·simp only [Act.put, List.setIfInBounds_toArray, List.set_cons_zero, List.set_cons_succ, i64_w, i32_w]
                   rfl
                  refine pure_ (i := 5) (N := some 75) (v := ?_) (a' := ?_) #[true, true, false, false, true, true, false, false, false, false, false, false, false, false, false] rfl rfl (any_of HT_.out (by kernel_rfl)) (fun _ _ _ h => h) (Or.inl ⟨by rfl, ?_⟩) ?_ ?_
                  rotate_left
                  ·intro w'
                   go_simp
                   with_reducible rfl
                  rotate_left
                  ·simp only [Act.put, List.setIfInBounds_toArray, List.set_cons_zero, List.set_cons_succ, i64_w, i32_w]
                   rfl
                  refine pure_ (i := 6) (N := some 76) (v := ?_) (a' := ?_) #[true, true, false, false, true, true, true, false, false, false, false, false, false, false, false] rfl rfl (any_of HT_.out (by kernel_rfl)) (fun _ _ _ h => h) (Or.inl ⟨by rfl, ?_⟩) ?_ ?_
                  rotate_left
                  ·intro w'
                   go_simp
                   with_reducible rfl
                  rotate_left
                  ·simp only [Act.put, List.setIfInBounds_toArray, List.set_cons_zero, List.set_cons_succ, i64_w, i32_w]
                   rfl
                  refine pure_ (i := 7) (N := some 77) (v := ?_) (a' := ?_) #[true, true, false, false, true, true, true, true, false, false, false, false, false, false, false] rfl rfl (any_of HT_.out (by kernel_rfl)) (fun _ _ _ h => h) (Or.inl ⟨by rfl, ?_⟩) ?_ ?_
                  rotate_left
                  ·intro w'
                   go_simp
                   with_reducible rfl
                  rotate_left
                  ·simp only [Act.put, List.setIfInBounds_toArray, List.set_cons_zero, List.set_cons_succ, i64_w, i32_w]
                   rfl
                  refine pure_ (i := 10) (N := some 80) (v := ?_) (a' := ?_) #[true, true, false, false, true, true, true, true, false, false, true, false, false, false, false] rfl rfl (any_of HT_.out (by kernel_rfl)) (fun _ _ _ h => h) (Or.inl ⟨by rfl, ?_⟩) ?_ ?_
                  rotate_left
                  ·intro w'
                   go_simp
                   with_reducible rfl
                  rotate_left
                  ·simp only [Act.put, List.setIfInBounds_toArray, List.set_cons_zero, List.set_cons_succ, i64_w, i32_w]
                   rfl
                  refine pure_ (i := 11) (N := some 81) (v := ?_) (a' := ?_) #[true, true, false, false, true, true, true, true, false, false, true, true, false, false, false] rfl rfl (any_of HT_.out (by kernel_rfl)) (fun _ _ _ h => h) (Or.inl ⟨by rfl, ?_⟩) ?_ ?_
                  rotate_left
                  ·intro w'
                   go_simp
                   with_reducible rfl
                  rotate_left
                  ·simp only [Act.put, List.setIfInBounds_toArray, List.set_cons_zero, List.set_cons_succ, i64_w, i32_w]
                   rfl
                  refine pure_ (i := 12) (N := some 82) (v := ?_) (a' := ?_) #[true, true, false, false, true, true, true, true, false, false, true, true, true, false, false] rfl rfl (any_of HT_.out (by kernel_rfl)) (fun _ _ _ h => h) (Or.inl ⟨by rfl, ?_⟩) ?_ ?_
                  rotate_left
                  ·intro w'
                   go_simp
                   with_reducible rfl
                  rotate_left
                  ·simp only [Act.put, List.setIfInBounds_toArray, List.set_cons_zero, List.set_cons_succ, i64_w, i32_w]
                   rfl
                  refine one_ (i := 2) (N := some 72) #[true, true, true, false, true, true, true, true, false, false, true, true, true, false, false] rfl rfl (one_of HT_.out (by kernel_rfl)) (by decide) (fun K hK => ?_)
                  refine goes_ Try.func55 (by kernel_rfl) rfl #[.int .i64 t442] (by rfl) rfl rfl (by (try simp only [lm]); rfl) ?_
                  with_reducible refine (q_count.calls k1 t442 t443 _ A53.out).mono ?_
                  rintro e w61 ⟨v444, rfl, ho0, hb⟩
                  refine ⟨_, rfl, ?_⟩
                  have n0_ := Ak (Kd.R_elder' (by exact HO_5.out) (Kd.R_base ho0) hb)
                  have n1_ := Ak (Kd.R_below (by exact HO_8.out) hb)
                  have n2_ := Ak (Kd.R_lower (Kd.R_new' ho0 (Kd.R_lt (by exact HO_5.out))) (below_size (by exact HB.out)))
                  have n3_ := Ak (below_step (by exact HB.out) hb)
                  clear HO_5 HO_8 HB
                  have HO_5 := n0_
                  have HO_8 := n1_
                  have HO445 := n2_
                  have HB := n3_
                  clear n0_ n1_ n2_ n3_
                  (try clear hb)
                  (try clear hb2)
                  (try clear hk)
                  (try clear hi)
                  (try clear ho0)
                  obtain ⟨Ao63, co63, eo63⟩ := Kd.R_slice HO445.out
                  (subst eo63)
                  refine hK.out _ _ trivial (fun hHeld => ?_)
                  clear hK K
                  refine norm_ (a' := ?_) ?_ ?_
                  rotate_left
                  ·show Act.put _ (some 72) _ = _
                   simp only [Act.put, List.setIfInBounds_toArray, List.set_cons_zero, List.set_cons_succ, i64_w, i32_w]
                   rfl
                  refine one_ (i := 3) (N := some 73) #[true, true, true, true, true, true, true, true, false, false, true, true, true, false, false] rfl rfl (one_of HT_.out (by kernel_rfl)) (by decide) (fun K hK => ?_)
                  refine Kd.R_append_rows_step (Kd.int .u8) (w0 := w) w.heap.size (by rfl) (.tmp 70) (.tmp 72) 27 5 (.int .u8 0) 1 rfl Try.underlying27 info5 rfl (by decide) (by omega) u5 x5_1 t443 _ _ _ (fun k_ => some k_ ≠ (.slice Ao63 t443.length co63 : Value).ownBlock) (fun _ => False) rfl rfl ?aO ?aR (fun _ _ h => h) (fun _ h => h.elim) ?aF ?aB ?aS ?aL ?_
                  (case aR => repeat (exact (Kd.R_reads' HO445.out).2.2))
                  (case aB => exact (by exact HB.out))
                  (case aF => exact (fun k_ hk => Kd.fresh' (Kd.R_lt (by exact HO445.out)) k_ hk))
                  (case aO => exact (by exact Kd.R_mono HO_5.out (fun _ hk => hk.2)))
                  (case aS => exact (below_size (by exact HB.out)))
                  (case aL => have := LMc54.out; omega)
                  intro v447 w62 ho hb hg hat
                  rw [← Ny446.out] at ho
                  have n0_ := Ak (Kd.R_over' (by exact HO_8.out) (Kd.R_typed (by exact HO_5.out)) (by decide) hg)
                  have n1_ := Ak (Kd.R_after (ok := (fun _ => True)) (by exact HO445.out) hg hat)
                  have n2_ := Ak (hb)
                  have n3_ := Ak (ho)
                  clear HO_8 HO445 HB HO_5
                  have HO_8 := n0_
                  have HO445 := n1_
                  have HB := n2_
                  have HO448 := n3_
                  clear n0_ n1_ n2_ n3_ ho hb hg hat
                  refine hK.out _ _ trivial (fun hHeld => ?_)
                  clear hK K
                  refine norm_ (a' := ?_) ?_ ?_
                  rotate_left
                  ·show Act.put _ (some 73) _ = _
                   simp only [Act.put, List.setIfInBounds_toArray, List.set_cons_zero, List.set_cons_succ, i64_w, i32_w]
                   rfl
                  refine one_ (i := 8) (N := some 78) #[true, true, true, true, true, true, true, true, true, false, true, true, true, false, false] rfl rfl (one_of HT_.out (by kernel_rfl)) (by decide) (fun K hK => ?_)
                  refine goes_ Try.func55 (by kernel_rfl) rfl #[.int .i64 (wrap64 (((rdOf ByteArray.empty t431 x56_1).size : Int) - t442))] (by rfl) rfl rfl (by (try simp only [lm]); rfl) ?_
                  with_reducible refine (q_count.calls k1 (wrap64 (((rdOf ByteArray.empty t431 x56_1).size : Int) - t442)) t449 _ A55.out).mono ?_
                  rintro e w64 ⟨v450, rfl, ho0, hb⟩
                  refine ⟨_, rfl, ?_⟩
                  have n0_ := Ak (Kd.R_below (by exact HO_8.out) hb)
                  have n1_ := Ak (Kd.R_elder' (by exact HO445.out) (Kd.R_base ho0) hb)
                  have n2_ := Ak (Kd.R_elder' (by exact HO448.out) (Kd.R_base ho0) hb)
                  have n3_ := Ak (Kd.R_lower (Kd.R_new' (Kd.R_new' ho0 (Kd.R_lt (by exact HO445.out))) (Kd.R_lt (by exact HO448.out))) (below_size (by exact HB.out)))
                  have n4_ := Ak (below_step (by exact HB.out) hb)
                  clear HO_8 HO445 HO448 HB
                  have HO_8 := n0_
                  have HO445 := n1_
                  have HO448 := n2_
                  have HO451 := n3_
                  have HB := n4_
                  clear n0_ n1_ n2_ n3_ n4_
                  (try clear hb)
                  (try clear hb2)
                  (try clear hk)
                  (try clear hi)
                  (try clear ho0)
                  obtain ⟨Ao66, co66, eo66⟩ := Kd.R_slice HO451.out
                  (subst eo66)
                  refine hK.out _ _ trivial (fun hHeld => ?_)
                  clear hK K
                  refine norm_ (a' := ?_) ?_ ?_
                  rotate_left
                  ·show Act.put _ (some 78) _ = _
                   simp only [Act.put, List.setIfInBounds_toArray, List.set_cons_zero, List.set_cons_succ, i64_w, i32_w]
                   rfl
                  refine one_ (i := 9) (N := some 79) #[true, true, true, true, true, true, true, true, true, true, true, true, true, false, false] rfl rfl (one_of HT_.out (by kernel_rfl)) (by decide) (fun K hK => ?_)
                  refine Kd.R_append_rows_step (Kd.int .u8) (w0 := w) w.heap.size (by rfl) (.tmp 73) (.tmp 78) 27 5 (.int .u8 0) 1 rfl Try.underlying27 info5 rfl (by decide) (by omega) v447 y446 t449 _ _ _ (fun k_ => some k_ ≠ (.slice Ao63 t443.length co63 : Value).ownBlock ∧ some k_ ≠ (.slice Ao66 t449.length co66 : Value).ownBlock) (fun _ => False) rfl rfl ?aO ?aR (fun _ _ h => h) (fun _ h => h.elim) ?aF ?aB ?aS ?aL ?_
                  (case aR => repeat (exact (Kd.R_reads' HO451.out).2.2))
                  (case aB => exact (by exact HB.out))
                  (case aF => exact (fun k_ hk => ⟨Kd.fresh' (Kd.R_lt (by exact HO445.out)) k_ hk, Kd.fresh' (Kd.R_lt (by exact HO451.out)) k_ hk⟩))
                  (case aO => exact (by exact HO448.out))
                  (case aS => exact (below_size (by exact HB.out)))
                  (case aL => have := LMc56.out; omega)
                  intro v453 w65 ho hb hg hat
                  rw [← Ny452.out] at ho
                  have n0_ := Ak (Kd.R_over' (by exact HO_8.out) (Kd.R_typed (by exact HO448.out)) (by decide) hg)
                  have n1_ := Ak (Kd.R_after (ok := (fun k_ => some k_ ≠ (.slice Ao66 t449.length co66 : Value).ownBlock)) (by exact Kd.R_mono HO445.out (fun _ hk => ⟨hk.2, hk.1.2⟩)) hg hat)
                  have n2_ := Ak (Kd.R_after (ok := (fun k_ => some k_ ≠ (.slice Ao63 t443.length co63 : Value).ownBlock)) (by exact Kd.R_mono HO451.out (fun _ hk => ⟨hk.1.2, hk.2⟩)) hg hat)
                  have n3_ := Ak (hb)
                  have n4_ := Ak (ho)
                  clear HO_8 HO445 HO451 HB HO448
                  have HO_8 := n0_
                  have HO445 := n1_
                  have HO451 := n2_
                  have HB := n3_
                  have HO454 := n4_
                  clear n0_ n1_ n2_ n3_ n4_ ho hb hg hat
                  refine hK.out _ _ trivial (fun hHeld => ?_)
                  clear hK K
                  refine norm_ (a' := ?_) ?_ ?_
                  rotate_left
                  ·show Act.put _ (some 79) _ = _
                   simp only [Act.put, List.setIfInBounds_toArray, List.set_cons_zero, List.set_cons_succ, i64_w, i32_w]
                   rfl
                  refine one_ (i := 13) (N := some 83) #[true, true, true, true, true, true, true, true, true, true, true, true, true, true, false] rfl rfl (one_of HT_.out (by kernel_rfl)) (by decide) (fun K hK => ?_)
                  refine Kd.R_append_str_step (w0 := w) w.heap.size (by rfl) (.tmp 79) _ 27 9 5 rfl Try.underlying27 Try.underlying9 info5 v453 y452 ((rdOf ByteArray.empty t431 x56_1).extract (t442 : Int).toNat (rdOf ByteArray.empty t431 x56_1).size) (fun k_ => some k_ ≠ (.slice Ao63 t443.length co63 : Value).ownBlock ∧ some k_ ≠ (.slice Ao66 t449.length co66 : Value).ownBlock) rfl (by rfl) ?aF ?aO ?aB ?aS ?aL ?_
                  (case aB => exact (by exact HB.out))
                  (case aF => exact (fun k_ hk => ⟨Kd.fresh' (Kd.R_lt (by exact HO445.out)) k_ hk, Kd.fresh' (Kd.R_lt (by exact HO451.out)) k_ hk⟩))
                  (case aO => exact (by exact HO454.out))
                  (case aS => exact (below_size (by exact HB.out)))
                  (case aL => have := LMc59.out; omega)
                  intro v456 w67 ho hb hg hat
                  rw [← Ny455.out] at ho
                  have n0_ := Ak (Kd.R_over' (by exact HO_8.out) (Kd.R_typed (by exact HO454.out)) (by decide) hg)
                  have n1_ := Ak (Kd.R_after (ok := (fun k_ => some k_ ≠ (.slice Ao66 t449.length co66 : Value).ownBlock)) (by exact HO445.out) hg hat)
                  have n2_ := Ak (Kd.R_after (ok := (fun k_ => some k_ ≠ (.slice Ao63 t443.length co63 : Value).ownBlock)) (by exact HO451.out) hg hat)
                  have n3_ := Ak (hb)
                  have n4_ := Ak (ho)
                  clear HO_8 HO445 HO451 HB HO454
                  have HO_8 := n0_
                  have HO445 := n1_
                  have HO451 := n2_
                  have HB := n3_
                  have HO457 := n4_
                  clear n0_ n1_ n2_ n3_ n4_ ho hb hg hat
                  refine hK.out _ _ trivial (fun hHeld => ?_)
                  clear hK K
                  refine norm_ (a' := ?_) ?_ ?_
                  rotate_left
                  ·show Act.put _ (some 83) _ = _
                   simp only [Act.put, List.setIfInBounds_toArray, List.set_cons_zero, List.set_cons_succ, i64_w, i32_w]
                   rfl
                  refine pure_ (i := 14) (N := some 5) (v := ?_) (a' := ?_) #[true, true, true, true, true, true, true, true, true, true, true, true, true, true, true] rfl rfl (any_of HT_.out (by kernel_rfl)) (fun _ _ _ h => h) (Or.inl ⟨by rfl, ?_⟩) ?_ ?_
                  rotate_left
                  ·intro w'
                   go_simp
                   with_reducible rfl
                  rotate_left
                  ·simp only [Act.put, List.setIfInBounds_toArray, List.set_cons_zero, List.set_cons_succ, i64_w, i32_w]
                   rfl
                  refine done_ (done_of HT_.out (by kernel_rfl)) ?_
                  try go_wp2
                  go_roundg k1
                  case measure => have := HK1.out; omega
                  case rel => exact ⟨(y455), (wrap64 (x56_1 + 1)), (by rfl), H', ⟨by have := HK1.out; omega⟩, ⟨by exact Kd.R_mono HO457.out (fun _ hk => trivial)⟩, ⟨by exact HO_8.out⟩, ⟨by exact HB.out⟩⟩
                 ·rw [if_neg c59] at H
                  exact absurd H (by simp)
                ·rw [if_neg c58] at H
                 exact absurd H (by simp)
               ·rw [if_neg c57] at H
                exact absurd H (by simp)
              ·rw [if_neg c56] at H
               exact absurd H (by simp)
             ·rw [if_neg c54] at H
              exact absurd H (by simp)
            ·rw [if_neg c51] at H
             exact absurd H (by simp)
           ·rw [if_neg c50] at H
            exact absurd H (by simp)
          ·rw [if_neg c48] at H
           have c48b0 : decide (0 < x56_1) = false := decide_eq_false c48
           clear c48
           replace H := Option.bind_eq_some_iff.mp H
           obtain ⟨t458, A680, H⟩ := H
           replace H : (if x5_1.length + t458.length < 140737488355328 then ((some (x5_1 ++ t458 : List Int)).bind fun y461 => ((q_count.f k1 (wrap64 (((rdOf ByteArray.empty t431 x56_1).size : Int) - 0))).bind fun t464 => (if y461.length + t464.length < 140737488355328 then ((some (y461 ++ t464 : List Int)).bind fun y467 => (if 0 ≤ ((rdOf ByteArray.empty t431 x56_1).size : Int) then (if y467.length + ((rdOf ByteArray.empty t431 x56_1).extract 0 (rdOf ByteArray.empty t431 x56_1).size).size < 140737488355328 then (q_textBytes.l1 k1 l1 (y467 ++ bytesOf ((rdOf ByteArray.empty t431 x56_1).extract 0 (rdOf ByteArray.empty t431 x56_1).size)) t431 (t431.length : Int) (wrap64 (x56_1 + 1))) else (none)) else (none))) else (none)))) else (none)) = some r := H
           have A68 := Ak A680
           clear A680
           by_cases c69 : x5_1.length + t458.length < 140737488355328
           ·rw [if_pos c69] at H
            have LMc69 := Ak c69
            clear c69
            obtain ⟨y461, hy461⟩ : ∃ y_ : List Int, y_ = (x5_1 ++ t458) := ⟨_, rfl⟩
            replace H : ((q_count.f k1 (wrap64 (((rdOf ByteArray.empty t431 x56_1).size : Int) - 0))).bind fun t464 => (if y461.length + t464.length < 140737488355328 then ((some (y461 ++ t464 : List Int)).bind fun y467 => (if 0 ≤ ((rdOf ByteArray.empty t431 x56_1).size : Int) then (if y467.length + ((rdOf ByteArray.empty t431 x56_1).extract 0 (rdOf ByteArray.empty t431 x56_1).size).size < 140737488355328 then (q_textBytes.l1 k1 l1 (y467 ++ bytesOf ((rdOf ByteArray.empty t431 x56_1).extract 0 (rdOf ByteArray.empty t431 x56_1).size)) t431 (t431.length : Int) (wrap64 (x56_1 + 1))) else (none)) else (none))) else (none))) = some r := by (have H2_ := (Option.bind_some _ _).symm.trans H; rw [hy461]; with_reducible exact H2_)
            have Ny461 := Ak hy461
            clear hy461
            replace H := Option.bind_eq_some_iff.mp H
            obtain ⟨t464, A700, H⟩ := H
            replace H : (if y461.length + t464.length < 140737488355328 then ((some (y461 ++ t464 : List Int)).bind fun y467 => (if 0 ≤ ((rdOf ByteArray.empty t431 x56_1).size : Int) then (if y467.length + ((rdOf ByteArray.empty t431 x56_1).extract 0 (rdOf ByteArray.empty t431 x56_1).size).size < 140737488355328 then (q_textBytes.l1 k1 l1 (y467 ++ bytesOf ((rdOf ByteArray.empty t431 x56_1).extract 0 (rdOf ByteArray.empty t431 x56_1).size)) t431 (t431.length : Int) (wrap64 (x56_1 + 1))) else (none)) else (none))) else (none)) = some r := H
            have A70 := Ak A700
            clear A700
            by_cases c71 : y461.length + t464.length < 140737488355328
            ·rw [if_pos c71] at H
             have LMc71 := Ak c71
             clear c71
             obtain ⟨y467, hy467⟩ : ∃ y_ : List Int, y_ = (y461 ++ t464) := ⟨_, rfl⟩
             replace H : (if 0 ≤ ((rdOf ByteArray.empty t431 x56_1).size : Int) then (if y467.length + ((rdOf ByteArray.empty t431 x56_1).extract 0 (rdOf ByteArray.empty t431 x56_1).size).size < 140737488355328 then (q_textBytes.l1 k1 l1 (y467 ++ bytesOf ((rdOf ByteArray.empty t431 x56_1).extract 0 (rdOf ByteArray.empty t431 x56_1).size)) t431 (t431.length : Int) (wrap64 (x56_1 + 1))) else (none)) else (none)) = some r := by (have H2_ := (Option.bind_some _ _).symm.trans H; rw [hy467]; with_reducible exact H2_)
             have Ny467 := Ak hy467
             clear hy467
             by_cases c72 : 0 ≤ ((rdOf ByteArray.empty t431 x56_1).size : Int)
             ·rw [if_pos c72] at H
              have c72b0 := eq_true c72
              have c72b1 : decide (0 ≤ ((rdOf ByteArray.empty t431 x56_1).size : Int)) = true := decide_eq_true c72
              clear c72
              by_cases c73 : y467.length + ((rdOf ByteArray.empty t431 x56_1).extract 0 (rdOf ByteArray.empty t431 x56_1).size).size < 140737488355328
              ·rw [if_pos c73] at H
               have LMc73 := Ak c73
               clear c73
               obtain ⟨y470, hy470⟩ : ∃ y_ : List Int, y_ = (y467 ++ bytesOf ((rdOf ByteArray.empty t431 x56_1).extract 0 (rdOf ByteArray.empty t431 x56_1).size)) := ⟨_, rfl⟩
               replace H : (q_textBytes.l1 k1 l1 y470 t431 (t431.length : Int) (wrap64 (x56_1 + 1))) = some r := by (rw [hy470]; with_reducible exact H)
               have Ny470 := Ak hy470
               clear hy470
               have H' := Ak H
               clear H
               have p440 : 0 ≤ (x56_1 : Int) := of_decide_eq_true (by (with_reducible assumption))
               have q440 : x56_1 < (t431.length : Int) := of_decide_eq_true (by (with_reducible assumption))
               obtain ⟨ad440, e440, hx440_0⟩ := Kd.at_string (Kd.R_reads' HO_8.out).2.2 x56_1 p440 q440
               cases e440
               replace p440 := eq_true p440
               replace q440 := eq_true q440
               try go_wp2
               have n0_ := Ak (Kd.R_drew HO_5.out)
               have n1_ := Ak (Kd.R_drew HO_8.out)
               have n2_ := Ak (below_drew1 HB.out)
               clear HO_5 HO_8 HB
               have HO_5 := n0_
               have HO_8 := n1_
               have HB := n2_
               clear n0_ n1_ n2_
               refine start_ (n := 15) (S := fun w' => True) (ds := []) #[false, false, false, false, false, false, false, false, false, false, false, false, false, false, false] (by kernel_rfl) rfl rfl trivial (fun hHeld => ?_); refine with_tabW q_textBytes.tab21 q_textBytes.bits21 (fun HT_ HW_ => ?_)
               generalize wr.drew = w74 at HO_5 HO_8 HB hHeld ⊢
               refine pure_ (i := 0) (N := some 70) (v := ?_) (a' := ?_) #[true, false, false, false, false, false, false, false, false, false, false, false, false, false, false] rfl rfl (any_of HT_.out (by kernel_rfl)) (fun _ _ _ h => h) (Or.inl ⟨by rfl, ?_⟩) ?_ ?_
               rotate_left
               ·intro w'
                go_simp
                with_reducible rfl
               rotate_left
               ·simp only [Act.put, List.setIfInBounds_toArray, List.set_cons_zero, List.set_cons_succ, i64_w, i32_w]
                rfl
               refine pure_ (i := 1) (N := some 71) (v := ?_) (a' := ?_) #[true, true, false, false, false, false, false, false, false, false, false, false, false, false, false] rfl rfl (any_of HT_.out (by kernel_rfl)) (fun _ _ _ h => h) (Or.inl ⟨by rfl, ?_⟩) ?_ ?_
               rotate_left
               ·intro w'
                go_simp
                with_reducible rfl
               rotate_left
               ·simp only [Act.put, List.setIfInBounds_toArray, List.set_cons_zero, List.set_cons_succ, i64_w, i32_w]
                rfl
               refine pure_ (i := 4) (N := some 74) (v := ?_) (a' := ?_) #[true, true, false, false, true, false, false, false, false, false, false, false, false, false, false] rfl rfl (any_of HT_.out (by kernel_rfl)) (fun _ _ _ h => h) (Or.inl ⟨by rfl, ?_⟩) ?_ ?_
               rotate_left
               ·intro w'
                go_simp
                with_reducible rfl
               rotate_left
               ·simp only [Act.put, List.setIfInBounds_toArray, List.set_cons_zero, List.set_cons_succ, i64_w, i32_w]
                rfl
               refine pure_ (i := 5) (N := some 75) (v := ?_) (a' := ?_) #[true, true, false, false, true, true, false, false, false, false, false, false, false, false, false] rfl rfl (any_of HT_.out (by kernel_rfl)) (fun _ _ _ h => h) (Or.inl ⟨by rfl, ?_⟩) ?_ ?_
               rotate_left
               ·intro w'
                go_simp
                with_reducible rfl
               rotate_left
               ·simp only [Act.put, List.setIfInBounds_toArray, List.set_cons_zero, List.set_cons_succ, i64_w, i32_w]
                rfl
               refine pure_ (i := 6) (N := some 76) (v := ?_) (a' := ?_) #[true, true, false, false, true, true, true, false, false, false, false, false, false, false, false] rfl rfl (any_of HT_.out (by kernel_rfl)) (fun _ _ _ h => h) (Or.inl ⟨by rfl, ?_⟩) ?_ ?_
               rotate_left
               ·intro w'
                go_simp
                with_reducible rfl
               rotate_left
               ·simp only [Act.put, List.setIfInBounds_toArray, List.set_cons_zero, List.set_cons_succ, i64_w, i32_w]
                rfl
               refine pure_ (i := 7) (N := some 77) (v := ?_) (a' := ?_) #[true, true, false, false, true, true, true, true, false, false, false, false, false, false, false] rfl rfl (any_of HT_.out (by kernel_rfl)) (fun _ _ _ h => h) (Or.inl ⟨by rfl, ?_⟩) ?_ ?_
               rotate_left
               ·intro w'
                go_simp
                with_reducible rfl
               rotate_left
               ·simp only [Act.put, List.setIfInBounds_toArray, List.set_cons_zero, List.set_cons_succ, i64_w, i32_w]
                rfl
               refine pure_ (i := 10) (N := some 80) (v := ?_) (a' := ?_) #[true, true, false, false, true, true, true, true, false, false, true, false, false, false, false] rfl rfl (any_of HT_.out (by kernel_rfl)) (fun _ _ _ h => h) (Or.inl ⟨by rfl, ?_⟩) ?_ ?_
               rotate_left
               ·intro w'
                go_simp
                with_reducible rfl
               rotate_left
               ·simp only [Act.put, List.setIfInBounds_toArray, List.set_cons_zero, List.set_cons_succ, i64_w, i32_w]
                rfl
               refine pure_ (i := 11) (N := some 81) (v := ?_) (a' := ?_) #[true, true, false, false, true, true, true, true, false, false, true, true, false, false, false] rfl rfl (any_of HT_.out (by kernel_rfl)) (fun _ _ _ h => h) (Or.inl ⟨by rfl, ?_⟩) ?_ ?_
               rotate_left
               ·intro w'
                go_simp
                with_reducible rfl
               rotate_left
               ·simp only [Act.put, List.setIfInBounds_toArray, List.set_cons_zero, List.set_cons_succ, i64_w, i32_w]
                rfl
               refine pure_ (i := 12) (N := some 82) (v := ?_) (a' := ?_) #[true, true, false, false, true, true, true, true, false, false, true, true, true, false, false] rfl rfl (any_of HT_.out (by kernel_rfl)) (fun _ _ _ h => h) (Or.inl ⟨by rfl, ?_⟩) ?_ ?_
               rotate_left
               ·intro w'
                go_simp
                with_reducible rfl
               rotate_left
               ·simp only [Act.put, List.setIfInBounds_toArray, List.set_cons_zero, List.set_cons_succ, i64_w, i32_w]
                rfl
               refine one_ (i := 2) (N := some 72) #[true, true, true, false, true, true, true, true, false, false, true, true, true, false, false] rfl rfl (one_of HT_.out (by kernel_rfl)) (by decide) (fun K hK => ?_)
               refine goes_ Try.func55 (by kernel_rfl) rfl #[.int .i64 0] (by rfl) rfl rfl (by (try simp only [lm]); rfl) ?_
               with_reducible refine (q_count.calls k1 0 t458 _ A68.out).mono ?_
               rintro e w75 ⟨v459, rfl, ho0, hb⟩
               refine ⟨_, rfl, ?_⟩
               have n0_ := Ak (Kd.R_elder' (by exact HO_5.out) (Kd.R_base ho0) hb)
               have n1_ := Ak (Kd.R_below (by exact HO_8.out) hb)
               have n2_ := Ak (Kd.R_lower (Kd.R_new' ho0 (Kd.R_lt (by exact HO_5.out))) (below_size (by exact HB.out)))
               have n3_ := Ak (below_step (by exact HB.out) hb)
               clear HO_5 HO_8 HB
               have HO_5 := n0_
               have HO_8 := n1_
               have HO460 := n2_
               have HB := n3_
               clear n0_ n1_ n2_ n3_
               (try clear hb)
               (try clear hb2)
               (try clear hk)
               (try clear hi)
               (try clear ho0)
               obtain ⟨Ao77, co77, eo77⟩ := Kd.R_slice HO460.out
               (subst eo77)
               refine hK.out _ _ trivial (fun hHeld => ?_)
               clear hK K
               refine norm_ (a' := ?_) ?_ ?_
               rotate_left
               ·show Act.put _ (some 72) _ = _
                simp only [Act.put, List.setIfInBounds_toArray, List.set_cons_zero, List.set_cons_succ, i64_w, i32_w]
                rfl
               refine one_ (i := 3) (N := some 73) #[true, true, true, true, true, true, true, true, false, false, true, true, true, false, false] rfl rfl (one_of HT_.out (by kernel_rfl)) (by decide) (fun K hK => ?_)
               refine Kd.R_append_rows_step (Kd.int .u8) (w0 := w) w.heap.size (by rfl) (.tmp 70) (.tmp 72) 27 5 (.int .u8 0) 1 rfl Try.underlying27 info5 rfl (by decide) (by omega) u5 x5_1 t458 _ _ _ (fun k_ => some k_ ≠ (.slice Ao77 t458.length co77 : Value).ownBlock) (fun _ => False) rfl rfl ?aO ?aR (fun _ _ h => h) (fun _ h => h.elim) ?aF ?aB ?aS ?aL ?_
               (case aR => repeat (exact (Kd.R_reads' HO460.out).2.2))
               (case aB => exact (by exact HB.out))
               (case aF => exact (fun k_ hk => Kd.fresh' (Kd.R_lt (by exact HO460.out)) k_ hk))
               (case aO => exact (by exact Kd.R_mono HO_5.out (fun _ hk => hk.2)))
               (case aS => exact (below_size (by exact HB.out)))
               (case aL => have := LMc69.out; omega)
               intro v462 w76 ho hb hg hat
               rw [← Ny461.out] at ho
               have n0_ := Ak (Kd.R_over' (by exact HO_8.out) (Kd.R_typed (by exact HO_5.out)) (by decide) hg)
               have n1_ := Ak (Kd.R_after (ok := (fun _ => True)) (by exact HO460.out) hg hat)
               have n2_ := Ak (hb)
               have n3_ := Ak (ho)
               clear HO_8 HO460 HB HO_5
               have HO_8 := n0_
               have HO460 := n1_
               have HB := n2_
               have HO463 := n3_
               clear n0_ n1_ n2_ n3_ ho hb hg hat
               refine hK.out _ _ trivial (fun hHeld => ?_)
               clear hK K
               refine norm_ (a' := ?_) ?_ ?_
               rotate_left
               ·show Act.put _ (some 73) _ = _
                simp only [Act.put, List.setIfInBounds_toArray, List.set_cons_zero, List.set_cons_succ, i64_w, i32_w]
                rfl
               refine one_ (i := 8) (N := some 78) #[true, true, true, true, true, true, true, true, true, false, true, true, true, false, false] rfl rfl (one_of HT_.out (by kernel_rfl)) (by decide) (fun K hK => ?_)
               refine goes_ Try.func55 (by kernel_rfl) rfl #[.int .i64 (wrap64 (((rdOf ByteArray.empty t431 x56_1).size : Int) - 0))] (by rfl) rfl rfl (by (try simp only [lm]); rfl) ?_
               with_reducible refine (q_count.calls k1 (wrap64 (((rdOf ByteArray.empty t431 x56_1).size : Int) - 0)) t464 _ A70.out).mono ?_
               rintro e w78 ⟨v465, rfl, ho0, hb⟩
               refine ⟨_, rfl, ?_⟩
               have n0_ := Ak (Kd.R_below (by exact HO_8.out) hb)
               have n1_ := Ak (Kd.R_elder' (by exact HO460.out) (Kd.R_base ho0) hb)
               have n2_ := Ak (Kd.R_elder' (by exact HO463.out) (Kd.R_base ho0) hb)
               have n3_ := Ak (Kd.R_lower (Kd.R_new' (Kd.R_new' ho0 (Kd.R_lt (by exact HO460.out))) (Kd.R_lt (by exact HO463.out))) (below_size (by exact HB.out)))
               have n4_ := Ak (below_step (by exact HB.out) hb)
               clear HO_8 HO460 HO463 HB
               have HO_8 := n0_
               have HO460 := n1_
               have HO463 := n2_
               have HO466 := n3_
               have HB := n4_
               clear n0_ n1_ n2_ n3_ n4_
               (try clear hb)
               (try clear hb2)
               (try clear hk)
               (try clear hi)
               (try clear ho0)
               obtain ⟨Ao80, co80, eo80⟩ := Kd.R_slice HO466.out
               (subst eo80)
               refine hK.out _ _ trivial (fun hHeld => ?_)
               clear hK K
               refine norm_ (a' := ?_) ?_ ?_
               rotate_left
               ·show Act.put _ (some 78) _ = _
                simp only [Act.put, List.setIfInBounds_toArray, List.set_cons_zero, List.set_cons_succ, i64_w, i32_w]
                rfl
               refine one_ (i := 9) (N := some 79) #[true, true, true, true, true, true, true, true, true, true, true, true, true, false, false] rfl rfl (one_of HT_.out (by kernel_rfl)) (by decide) (fun K hK => ?_)
               refine Kd.R_append_rows_step (Kd.int .u8) (w0 := w) w.heap.size (by rfl) (.tmp 73) (.tmp 78) 27 5 (.int .u8 0) 1 rfl Try.underlying27 info5 rfl (by decide) (by omega) v462 y461 t464 _ _ _ (fun k_ => some k_ ≠ (.slice Ao77 t458.length co77 : Value).ownBlock ∧ some k_ ≠ (.slice Ao80 t464.length co80 : Value).ownBlock) (fun _ => False) rfl rfl ?aO ?aR (fun _ _ h => h) (fun _ h => h.elim) ?aF ?aB ?aS ?aL ?_
               (case aR => repeat (exact (Kd.R_reads' HO466.out).2.2))
               (case aB => exact (by exact HB.out))
               (case aF => exact (fun k_ hk => ⟨Kd.fresh' (Kd.R_lt (by exact HO460.out)) k_ hk, Kd.fresh' (Kd.R_lt (by exact HO466.out)) k_ hk⟩))
               (case aO => exact (by exact HO463.out))
               (case aS => exact (below_size (by exact HB.out)))
               (case aL => have := LMc71.out; omega)
               intro v468 w79 ho hb hg hat
               rw [← Ny467.out] at ho
               have n0_ := Ak (Kd.R_over' (by exact HO_8.out) (Kd.R_typed (by exact HO463.out)) (by decide) hg)
               have n1_ := Ak (Kd.R_after (ok := (fun k_ => some k_ ≠ (.slice Ao80 t464.length co80 : Value).ownBlock)) (by exact Kd.R_mono HO460.out (fun _ hk => ⟨hk.2, hk.1.2⟩)) hg hat)
               have n2_ := Ak (Kd.R_after (ok := (fun k_ => some k_ ≠ (.slice Ao77 t458.length co77 : Value).ownBlock)) (by exact Kd.R_mono HO466.out (fun _ hk => ⟨hk.1.2, hk.2⟩)) hg hat)
               have n3_ := Ak (hb)
               have n4_ := Ak (ho)
               clear HO_8 HO460 HO466 HB HO463
               have HO_8 := n0_
               have HO460 := n1_
               have HO466 := n2_
               have HB := n3_
               have HO469 := n4_
               clear n0_ n1_ n2_ n3_ n4_ ho hb hg hat
               refine hK.out _ _ trivial (fun hHeld => ?_)
               clear hK K
               refine norm_ (a' := ?_) ?_ ?_
               rotate_left
               ·show Act.put _ (some 79) _ = _
                simp only [Act.put, List.setIfInBounds_toArray, List.set_cons_zero, List.set_cons_succ, i64_w, i32_w]
                rfl
               refine one_ (i := 13) (N := some 83) #[true, true, true, true, true, true, true, true, true, true, true, true, true, true, false] rfl rfl (one_of HT_.out (by kernel_rfl)) (by decide) (fun K hK => ?_)
               refine Kd.R_append_str_step (w0 := w) w.heap.size (by rfl) (.tmp 79) _ 27 9 5 rfl Try.underlying27 Try.underlying9 info5 v468 y467 ((rdOf ByteArray.empty t431 x56_1).extract 0 (rdOf ByteArray.empty t431 x56_1).size) (fun k_ => some k_ ≠ (.slice Ao77 t458.length co77 : Value).ownBlock ∧ some k_ ≠ (.slice Ao80 t464.length co80 : Value).ownBlock) rfl (by exact congrArg Value.string (by simp)) ?aF ?aO ?aB ?aS ?aL ?_
               (case aB => exact (by exact HB.out))
               (case aF => exact (fun k_ hk => ⟨Kd.fresh' (Kd.R_lt (by exact HO460.out)) k_ hk, Kd.fresh' (Kd.R_lt (by exact HO466.out)) k_ hk⟩))
               (case aO => exact (by exact HO469.out))
               (case aS => exact (below_size (by exact HB.out)))
               (case aL => have := LMc73.out; omega)
               intro v471 w81 ho hb hg hat
               rw [← Ny470.out] at ho
               have n0_ := Ak (Kd.R_over' (by exact HO_8.out) (Kd.R_typed (by exact HO469.out)) (by decide) hg)
               have n1_ := Ak (Kd.R_after (ok := (fun k_ => some k_ ≠ (.slice Ao80 t464.length co80 : Value).ownBlock)) (by exact HO460.out) hg hat)
               have n2_ := Ak (Kd.R_after (ok := (fun k_ => some k_ ≠ (.slice Ao77 t458.length co77 : Value).ownBlock)) (by exact HO466.out) hg hat)
               have n3_ := Ak (hb)
               have n4_ := Ak (ho)
               clear HO_8 HO460 HO466 HB HO469
               have HO_8 := n0_
               have HO460 := n1_
               have HO466 := n2_
               have HB := n3_
               have HO472 := n4_
               clear n0_ n1_ n2_ n3_ n4_ ho hb hg hat
               refine hK.out _ _ trivial (fun hHeld => ?_)
               clear hK K
               refine norm_ (a' := ?_) ?_ ?_
               rotate_left
               ·show Act.put _ (some 83) _ = _
                simp only [Act.put, List.setIfInBounds_toArray, List.set_cons_zero, List.set_cons_succ, i64_w, i32_w]
                rfl
               refine pure_ (i := 14) (N := some 5) (v := ?_) (a' := ?_) #[true, true, true, true, true, true, true, true, true, true, true, true, true, true, true] rfl rfl (any_of HT_.out (by kernel_rfl)) (fun _ _ _ h => h) (Or.inl ⟨by rfl, ?_⟩) ?_ ?_
               rotate_left
               ·intro w'
                go_simp
                with_reducible rfl
               rotate_left
               ·simp only [Act.put, List.setIfInBounds_toArray, List.set_cons_zero, List.set_cons_succ, i64_w, i32_w]
                rfl
               refine done_ (done_of HT_.out (by kernel_rfl)) ?_
               try go_wp2
               go_roundg k1
               case measure => have := HK1.out; omega
               case rel => exact ⟨(y470), (wrap64 (x56_1 + 1)), (by rfl), H', ⟨by have := HK1.out; omega⟩, ⟨by exact Kd.R_mono HO472.out (fun _ hk => trivial)⟩, ⟨by exact HO_8.out⟩, ⟨by exact HB.out⟩⟩
              ·rw [if_neg c73] at H
               exact absurd H (by simp)
             ·rw [if_neg c72] at H
              exact absurd H (by simp)
            ·rw [if_neg c71] at H
             exact absurd H (by simp)
           ·rw [if_neg c69] at H
            exact absurd H (by simp)
         ·rw [if_neg c47] at H
          exact absurd H (by simp)
        ·rw [if_neg c46] at H
         exact absurd H (by simp)
       ·rw [if_neg c45] at H
        have c45b0 : decide (x56_1 < (t431.length : Int)) = false := decide_eq_false c45
        clear c45
        by_cases c82 : 0 ≤ (l1.length : Int)
        ·rw [if_pos c82] at H
         have c82b0 := eq_true c82
         have c82b1 : decide (0 ≤ (l1.length : Int)) = true := decide_eq_true c82
         clear c82
         by_cases c83 : ((l1.length : Int) : Int).toNat ≤ 35184372088832
         ·rw [if_pos c83] at H
          have c83b0 := eq_true c83
          have c83b1 : decide (((l1.length : Int) : Int).toNat ≤ 35184372088832) = true := decide_eq_true c83
          clear c83
          obtain ⟨y473, hy473⟩ : ∃ y_ : List Int, y_ = (List.replicate ((l1.length : Int) : Int).toNat 0) := ⟨_, rfl⟩
          replace H : (q_textBytes.l2 k1 x5_1 t431 y473 l1 (l1.length : Int) 0) = some r := by (rw [hy473]; with_reducible exact H)
          have Ny473 := Ak hy473
          clear hy473
          have H' := Ak H
          clear H
          go_wp2_with (first | ((with_reducible refine gate_dst (N := 87) rfl ?_); refine Kd.R_make (Kd.int .i64) _ 3 rfl (N := 87) rfl 22 _ _ rfl (l1.length : Int) rfl rfl Try.underlying22 (.int .i64 0) 8 info3 rfl (by decide) (by omega) 0 (ok := fun _ => True) (okp := fun _ => True) rfl (fun _ hk => hk) trivial (of_decide_eq_true (by (with_reducible assumption))) (Nat.le_trans (Nat.mul_le_mul_right _ (of_decide_eq_true (by (with_reducible assumption)) : (l1.length : Int).toNat ≤ 35184372088832)) (by omega)) (Below.refl _ _) (Nat.le_refl _) ?_; intro v474 w84 ho85 hb hg_ hnew_; clear hg_ hnew_; (rw [← Ny473.out] at ho85); have n0_ := Ak (Kd.R_below (by exact HO_5.out) hb); have n1_ := Ak (Kd.R_below (by exact HO_8.out) hb); have n2_ := Ak (Kd.R_lower ho85 (below_size (by exact HB.out))); have n3_ := Ak (below_step (by exact HB.out) hb); clear HO_5 HO_8 HB; have HO_5 := n0_; have HO_8 := n1_; have HO475 := n2_; have HB := n3_; clear n0_ n1_ n2_ n3_ hb ho85))
          go_loopg [90] k1 (fun kq v90 w' => ∃ (x12_2 : List Int) (x90_2 : Int), v90 = .int .i64 x90_2 ∧ Aside0 (q_textBytes.l2 kq x5_1 t431 x12_2 l1 (l1.length : Int) x90_2 = some r) ∧ Aside0 (kq ≤ k1) ∧ Aside0 (Kd.R (Kd.int .u8) 5 w' w.heap.size (fun _ => True) u5 x5_1) ∧ Aside0 (Kd.R Kd.string 9 w' w.heap.size (fun _ => True) (.slice Ao41 t431.length co41) t431) ∧ Aside0 (Kd.R (Kd.int .i64) 3 w' w.heap.size (fun _ => True) v474 x12_2) ∧ Aside0 (Below w.heap.size w w'))
          case atStart => exact ⟨(y473), (0), (by rfl), H', ⟨Nat.le_refl _⟩, ⟨by exact HO_5.out⟩, ⟨by exact HO_8.out⟩, ⟨by exact HO475.out⟩, ⟨by exact HB.out⟩⟩
          case round =>
           clear H'
           try clear c45b0
           try clear c82b0
           try clear c82b1
           try clear c83b0
           try clear c83b1
           obtain ⟨x12_2, x90_2, rfl, HA, HK2, HO_5, HO_8, HO_12, HB⟩ := hrel
           cases gk with
           | zero => exact absurd HA.out (by simp [q_textBytes.l2])
           | succ k2 =>
            have H := HA.out
            clear HA
            simp only [q_textBytes.l2] at H
            by_cases c86 : x90_2 < (l1.length : Int)
            ·rw [if_pos c86] at H
             have c86b0 : decide (x90_2 < (l1.length : Int)) = true := decide_eq_true c86
             clear c86
             by_cases c87 : 0 ≤ x90_2
             ·rw [if_pos c87] at H
              have c87b0 : decide (0 ≤ x90_2) = true := decide_eq_true c87
              clear c87
              by_cases c88 : x90_2 < (l1.length : Int)
              ·rw [if_pos c88] at H
               have c88b0 : decide (x90_2 < (l1.length : Int)) = true := decide_eq_true c88
               clear c88
               replace H := Option.bind_eq_some_iff.mp H
               obtain ⟨t477, A890, H⟩ := H
               replace H : (if x90_2 < (x12_2.length : Int) then (q_textBytes.l2 k2 x5_1 t431 (x12_2.set (x90_2 : Int).toNat t477) l1 (l1.length : Int) (wrap64 (x90_2 + 1))) else (none)) = some r := H
               have A89 := Ak A890
               clear A890
               by_cases c90 : x90_2 < (x12_2.length : Int)
               ·rw [if_pos c90] at H
                have c90b0 : decide (x90_2 < (x12_2.length : Int)) = true := decide_eq_true c90
                clear c90
                obtain ⟨y478, hy478⟩ : ∃ y_ : List Int, y_ = (x12_2.set (x90_2 : Int).toNat t477) := ⟨_, rfl⟩
                replace H : (q_textBytes.l2 k2 x5_1 t431 y478 l1 (l1.length : Int) (wrap64 (x90_2 + 1))) = some r := by (rw [hy478]; with_reducible exact H)
                have Ny478 := Ak hy478
                clear hy478
                have H' := Ak H
                clear H
                have p476 : 0 ≤ (x90_2 : Int) := of_decide_eq_true (by (with_reducible assumption))
                have q476 : x90_2 < (l1.length : Int) := of_decide_eq_true (by (with_reducible assumption))
                obtain ⟨ad476, e476, hx476_0⟩ := Kd.at_string HR1.out x90_2 p476 q476
                cases e476
                replace hx476_0 := (HB.out.cell (World.block_lt_of_cell? w _ hx476_0)).trans hx476_0
                replace p476 := eq_true p476
                replace q476 := eq_true q476
                go_wp2_with (first | ((with_reducible refine gate_callee (f := 102) rfl ?_); refine goesL_ (some 99) rfl rfl Try.func102 (by kernel_rfl) rfl #[.slice Ao41 t431.length co41, .string (rdOf ByteArray.empty l1 x90_2)] rfl (by (try simp only [lm]); rfl) ?_; (with_reducible refine (s_Indext.calls k2 _ _ t431 (rdOf ByteArray.empty l1 x90_2) t477 _ ?side1 ?side2 A89.out).mono ?_); (case side1 => repeat (exact (Kd.R_reads' HO_8.out).2.2)); (case side2 => exact (Kd.R_reads' HO_8.out).2.1); rintro e w' ⟨rfl, ⟨nd, rfl⟩⟩; refine ⟨_, rfl, ?_⟩; (try (rw [drewN_self wr]; generalize hq_ : World.drewN wr _ = wr; have n0_ : Aside0 (Kd.R (Kd.int .i64) 3 wr w.heap.size (fun _ => True) v474 x12_2) := ⟨by rw [← hq_]; exact (by (with_reducible repeat (apply Kd.R_drewN)); exact HO_12.out)⟩; have n1_ : Aside0 (Kd.R (Kd.int .u8) 5 wr w.heap.size (fun _ => True) u5 x5_1) := ⟨by rw [← hq_]; exact (by (with_reducible repeat (apply Kd.R_drewN)); exact HO_5.out)⟩; have n2_ : Aside0 (Kd.R Kd.string 9 wr w.heap.size (fun _ => True) (.slice Ao41 t431.length co41) t431) := ⟨by rw [← hq_]; exact (by (with_reducible repeat (apply Kd.R_drewN)); exact HO_8.out)⟩; have n3_ : Aside0 (Below w.heap.size w wr) := ⟨by rw [← hq_]; exact (by repeat ((with_reducible first | exact HB.out | apply pw_below_drewN)))⟩; clear HO_12 HO_5 HO_8 HB hq_; have HO_12 := n0_; have HO_5 := n1_; have HO_8 := n2_; have HB := n3_; clear n0_ n1_ n2_ n3_)); have p91 : 0 ≤ (x90_2 : Int) := of_decide_eq_true (by (with_reducible assumption)); have q91 : (x90_2 : Int) < ((x12_2.length : Int) : Int) := of_decide_eq_true (by (with_reducible assumption)); obtain ⟨go91, co91, eo91, gb91, gl91, cl91, HG91⟩ := Kd.R_form HO_12.out (by omega); (cases eo91); have GB91 := Ak gb91; have GG91 := Ak HG91; clear gb91 gl91 HG91; obtain ⟨hx91_0, hf91_0⟩ := Kd.R_celln 0 HO_12.out (x90_2 : Int) p91 q91; replace p91 := eq_true p91; replace q91 := eq_true q91; obtain ⟨hy92_, hz92_⟩ := Kd.R_celln 0 HO_12.out (x90_2 : Int) (of_decide_eq_true (by (with_reducible assumption))) (of_decide_eq_true (by (with_reducible assumption))); have HP92 := Kd.R_putg HO_12.out (x90_2 : Int) t477) | ((with_reducible refine gate_store (t := 3) (p := 100) rfl ?_); refine store_event (t := 3) (p := 100) (v := ?vo_w93) (w1 := (wr.setCell ⟨go91, (x90_2 : Int).toNat, none⟩ (.int .i64 t477))) ?hg ?ho ?hn ?hr ?_; (case ho => rfl); (case hg => rfl); (case hn => rfl); (case hr => (go_simp; done)); intro w93 hw; have hg : wr.grownBy w93 (some go91) := (by rw [hw]; exact HP92.2); have hp_ : Kd.R (Kd.int .i64) 3 w93 w.heap.size (fun _ => True) (.slice (some ⟨go91, 0, none⟩) x12_2.length co91) y478 := (by rw [hw, Ny478.out]; exact HP92.1); clear HP92; have n0_ := Ak (Kd.R_over' (v := (.slice (some ⟨go91, 0, none⟩) x12_2.length co91)) (by exact HO_5.out) (Kd.R_typed HO_12.out) (by decide) hg); have n1_ := Ak (Kd.R_over' (v := (.slice (some ⟨go91, 0, none⟩) x12_2.length co91)) (by exact HO_8.out) (Kd.R_typed HO_12.out) (by decide) hg); have n2_ := Ak (hp_); have n3_ := Ak ((by rw [hw]; exact below_set (HB.out) GB91.out : Below w.heap.size w w93)); clear HO_5 HO_8 HO_12 HB; have HO_5 := n0_; have HO_8 := n1_; have HO_12 := n2_; have HB := n3_; clear n0_ n1_ n2_ n3_ hg hw hp_))
                go_roundg k2
                case measure => have := HK1.out; have := HK2.out; omega
                case rel => exact ⟨(y478), (wrap64 (x90_2 + 1)), (by rfl), H', ⟨by have := HK1.out; have := HK2.out; omega⟩, ⟨by exact HO_5.out⟩, ⟨by exact HO_8.out⟩, ⟨by exact HO_12.out⟩, ⟨by exact HB.out⟩⟩
               ·rw [if_neg c90] at H
                exact absurd H (by simp)
              ·rw [if_neg c88] at H
               exact absurd H (by simp)
             ·rw [if_neg c87] at H
              exact absurd H (by simp)
            ·rw [if_neg c86] at H
             have c86b0 : decide (x90_2 < (l1.length : Int)) = false := decide_eq_false c86
             clear c86
             replace H := Option.bind_eq_some_iff.mp H
             obtain ⟨t479, A940, H⟩ := H
             replace H : ((q_packed.f k2 x12_2 t479).bind fun t480 => (if x5_1.length + t480.length < 140737488355328 then (some (x5_1 ++ t480)) else (none))) = some r := H
             have A94 := Ak A940
             clear A940
             replace H := Option.bind_eq_some_iff.mp H
             obtain ⟨t480, A950, H⟩ := H
             replace H : (if x5_1.length + t480.length < 140737488355328 then (some (x5_1 ++ t480)) else (none)) = some r := H
             have A95 := Ak A950
             clear A950
             by_cases c96 : x5_1.length + t480.length < 140737488355328
             ·rw [if_pos c96] at H
              have LMc96 := Ak c96
              clear c96
              obtain ⟨y483, hy483⟩ : ∃ y_ : List Int, y_ = (x5_1 ++ t480) := ⟨_, rfl⟩
              replace H : (some y483) = some r := by (rw [hy483]; with_reducible exact H)
              have Ny483 := Ak hy483
              clear hy483
              obtain rfl := Option.some.inj H
              go_wp2_with (first | ((with_reducible refine gate_callee (f := 104) rfl ?_); refine goesL_ (some 107) rfl rfl Try.func104 (by kernel_rfl) rfl #[.int .i64 (wrap64 ((t431.length : Int) - 1))] rfl (by (try simp only [lm]); rfl) ?_; (with_reducible refine (q_width.calls (wrap64 ((t431.length : Int) - 1)) t479 _ A94.out).mono ?_); rintro e w' ⟨rfl, ⟨nd, rfl⟩⟩; refine ⟨_, rfl, ?_⟩; obtain ⟨Ao97, co97, eo97⟩ := Kd.R_slice HO_12.out; subst eo97) | ((with_reducible refine gate_callee (f := 103) rfl ?_); refine goesL_ (some 108) rfl rfl Try.func103 (by kernel_rfl) rfl #[.slice Ao97 x12_2.length co97, .int .i64 t479] rfl (by (try simp only [lm]); rfl) ?_; (with_reducible refine (q_packed.calls k2 _ _ x12_2 t479 t480 _ ?side1 ?side2 A95.out).mono ?_); (case side1 => repeat (exact (Kd.R_reads' HO_12.out).2.2)); (case side2 => exact (Kd.R_reads' HO_12.out).2.1); rintro e w98 ⟨v481, rfl, ho0, hb⟩; refine ⟨_, rfl, ?_⟩; have n0_ := Ak (Kd.R_elder' (by (with_reducible repeat (apply Kd.R_drewN)); exact HO_5.out) (Kd.R_base ho0) hb); have n1_ := Ak (Kd.R_below (by (with_reducible repeat (apply Kd.R_drewN)); exact HO_8.out) hb); have n2_ := Ak (Kd.R_below (by (with_reducible repeat (apply Kd.R_drewN)); exact HO_12.out) hb); have n3_ := Ak (Kd.R_lower (Kd.R_new' ho0 (Kd.R_lt (by (with_reducible repeat (apply Kd.R_drewN)); exact HO_5.out))) (below_size (by repeat ((with_reducible first | exact HB.out | apply pw_below_drewN))))); have n4_ := Ak (below_step (by repeat ((with_reducible first | exact HB.out | apply pw_below_drewN))) hb); clear HO_5 HO_8 HO_12 HB; have HO_5 := n0_; have HO_8 := n1_; have HO_12 := n2_; have HO482 := n3_; have HB := n4_; clear n0_ n1_ n2_ n3_ n4_; (try clear hb); (try clear ho0); obtain ⟨Ao100, co100, eo100⟩ := Kd.R_slice HO482.out; subst eo100) | ((with_reducible refine gate_builtin (b := .append) (xs := #[.tmp 102, .tmp 108]) rfl ?_); at_builtin; refine Kd.R_append_rows (Kd.int .u8) (w0 := w) w.heap.size rfl (.tmp 102) (.tmp 108) 27 5 (.int .u8 0) 1 rfl Try.underlying27 info5 rfl (by decide) (by omega) u5 x5_1 t480 _ _ _ (fun k_ => some k_ ≠ (.slice Ao100 t480.length co100 : Value).ownBlock) (fun _ => False) rfl rfl ?aO ?aR (fun _ _ h => h) (fun _ h => h.elim) ?aF ?aB ?aS ?aL ?_; (case aR => repeat (exact (Kd.R_reads' HO482.out).2.2)); (case aB => exact (by exact HB.out)); (case aF => exact (fun k_ hk => Kd.fresh' (Kd.R_lt (by exact HO482.out)) k_ hk)); (case aO => exact (by exact Kd.R_mono HO_5.out (fun _ hk => hk.2))); (case aS => exact (below_size (by exact HB.out))); (case aL => have := LMc96.out; omega); intro v484 w99 ho hb hg hat; rw [← Ny483.out] at ho; have n0_ := Ak (Kd.R_over' (by exact HO_8.out) (Kd.R_typed (by exact HO_5.out)) (by decide) hg); have n1_ := Ak (Kd.R_over' (by exact HO_12.out) (Kd.R_typed (by exact HO_5.out)) (by decide) hg); have n2_ := Ak (Kd.R_after (ok := (fun _ => True)) (by exact HO482.out) hg hat); have n3_ := Ak (hb); have n4_ := Ak (ho); clear HO_8 HO_12 HO482 HB HO_5; have HO_8 := n0_; have HO_12 := n1_; have HO482 := n2_; have HB := n3_; have HO485 := n4_; clear n0_ n1_ n2_ n3_ n4_ ho hb hg hat))
              go_ret
              exact ⟨_, by rfl, by exact Kd.R_mono HO485.out (fun _ hk => trivial), by exact HB.out⟩
             ·rw [if_neg c96] at H
              exact absurd H (by simp)
         ·rw [if_neg c83] at H
          exact absurd H (by simp)
        ·rw [if_neg c82] at H
         exact absurd H (by simp)
    ·rw [if_neg c31] at H
     exact absurd H (by simp)
 ·rw [if_neg c4] at H
  exact absurd H (by simp)
def q_EncodeTexts.j0 : Nat → Int → List ByteArray → Bool → Option (List Int × Int)
 | 0, _, _, _ => none
 | k + 1, x0, x1, x12 => if x12 = true then (some (([] : List Int), 4)) else ((q_checkTexts.f k x1).bind fun t486 => (if t486 = 0 then ((q_textBytes.f k x0 x1).bind fun t487 => (some (t487, 0))) else (some (([] : List Int), t486))))
def q_EncodeTexts.f (k : Nat) (a0 : Int) (l1 : List ByteArray) : Option (List Int × Int) := if a0 = 1 then (q_EncodeTexts.j0 k a0 l1 false) else (q_EncodeTexts.j0 k a0 l1 (a0 != 3))
theorem q_EncodeTexts.mono_l : ∀ k, (∀ y0 y1 y2, LeO (q_EncodeTexts.j0 k y0 y1 y2) (q_EncodeTexts.j0 (k + 1) y0 y1 y2))
 | 0 => fun _ _ _ r h => by simp [q_EncodeTexts.j0] at h
 | k + 1 => by
  have ih0 := q_EncodeTexts.mono_l k
  ·intro y0 y1 y2
   unfold q_EncodeTexts.j0
   repeat' first
   | (with_reducible exact q_checkTexts.mono _ _)
   | (with_reducible exact q_textBytes.mono _ _ _)
   | (with_reducible exact LeO.refl _)
   | (with_reducible refine LeO.ite ?_ ?_)
   | (with_reducible refine LeO.bind ?_ (fun _ => ?_))
theorem q_EncodeTexts.mono : ∀ a0 a1 k, LeO (q_EncodeTexts.f k a0 a1) (q_EncodeTexts.f (k + 1) a0 a1) := by
 intro a0 a1 k
 have ih0 := q_EncodeTexts.mono_l k
 unfold q_EncodeTexts.f
 repeat' first
  | (with_reducible exact ih0 _ _ _)
  | (with_reducible refine LeO.ite ?_ ?_)
set_option maxHeartbeats 8000000 in
set_option maxRecDepth 100000 in
theorem q_EncodeTexts.calls (k : Nat) (a0 : Int) (A1 : Option Addr) (c1 : Nat) (l1 : List ByteArray) (r1 : List Int) (r2 : Int) (w : World) (hr1 : Kd.C Kd.string w A1 l1.length l1) (hc1 : l1.length ≤ c1) (h : q_EncodeTexts.f k a0 l1 = some (r1, r2)) :
 Calls Try.prog 44 #[.int .i64 a0, .slice A1 l1.length c1] w fun e w' => ∃ v0_ : Value, e = .returned (.tuple #[v0_, .int .i64 r2]) ∧ Kd.R (Kd.int .u8) 5 w' w.heap.size (fun _ => True) v0_ r1 ∧ Below w.heap.size w w' := by
 have HR1 := Ak hr1
 have HC1 := Ak hc1
 clear hr1 hc1
 have HB := Ak (Below.refl w.heap.size w)
 have H : (if a0 = 1 then (q_EncodeTexts.j0 k a0 l1 false) else (q_EncodeTexts.j0 k a0 l1 (a0 != 3))) = some (r1, r2) := h
 clear h
 have HC3 := Ak H
 clear H
 go_enter Try.func44, Try.ntmps44
 go_upto_region 1 with (fail)
 go_cut [12] (fun v12 wc => ∃ (kq : Nat) (x12_2 : Bool), v12 = .bool x12_2 ∧ Aside0 (q_EncodeTexts.j0 kq a0 l1 x12_2 = some (r1, r2)) ∧ Aside0 (kq ≤ k) ∧ Aside0 (Below w.heap.size w wc))
 case first =>
  have H := HC3.out
  clear HC3
  by_cases c4 : a0 = 1
  ·rw [if_pos c4] at H
   have c4b0 : (a0 == 1) = true := beq_iff_eq.mpr c4
   have c4b1 : (a0 != 1) = false := bne_eq_false_iff_eq.mpr c4
   clear c4
   (skip)
   (try rw [c4b1])
   have H' := Ak H
   clear H
   go_wp2
   go_meet
   case rel => exact ⟨_, (false), (by rfl), H', ⟨by omega⟩, ⟨by exact HB.out⟩⟩
  ·rw [if_neg c4] at H
   have c4b0 : (a0 == 1) = false := beq_eq_false_iff_ne.mpr c4
   have c4b1 : (a0 != 1) = true := bne_iff_ne.mpr c4
   (skip)
   (try rw [c4b1])
   have H' := Ak H
   clear H
   go_wp2
   go_meet
   case rel => exact ⟨_, ((a0 != 3)), (by rfl), H', ⟨by omega⟩, ⟨by exact HB.out⟩⟩
 case rest =>
  clear HC3
  obtain ⟨kq, x12_2, rfl, HA, HJ2, HB⟩ := hcut
  cases kq with
  | zero => exact absurd HA.out (by simp [q_EncodeTexts.j0])
  | succ kj2 =>
   have H := HA.out
   clear HA
   simp only [q_EncodeTexts.j0] at H
   by_cases c5 : x12_2 = true
   ·subst c5
    replace H : (some (([] : List Int), 4)) = some (r1, r2) := by rw [if_pos rfl] at H; exact H
    simp only [Option.some.injEq, Prod.mk.injEq] at H
    obtain ⟨rfl, rfl⟩ := H
    go_wp2
    go_ret2
    exact ⟨_, by rfl, by exact Kd.R_nil _ _ _ _ _, by exact HB.out⟩
   ·replace c5 := Bool.eq_false_iff.mpr c5
    subst c5
    replace H : ((q_checkTexts.f kj2 l1).bind fun t486 => (if t486 = 0 then ((q_textBytes.f kj2 a0 l1).bind fun t487 => (some (t487, 0))) else (some (([] : List Int), t486)))) = some (r1, r2) := by rw [if_neg (show ¬ (false = true) by decide)] at H; exact H
    replace H := Option.bind_eq_some_iff.mp H
    obtain ⟨t486, A60, H⟩ := H
    replace H : (if t486 = 0 then ((q_textBytes.f kj2 a0 l1).bind fun t487 => (some (t487, 0))) else (some (([] : List Int), t486))) = some (r1, r2) := H
    have A6 := Ak A60
    clear A60
    by_cases c7 : t486 = 0
    ·rw [if_pos c7] at H
     have c7b0 : (t486 == 0) = true := beq_iff_eq.mpr c7
     have c7b1 : (t486 != 0) = false := bne_eq_false_iff_eq.mpr c7
     clear c7
     replace H := Option.bind_eq_some_iff.mp H
     obtain ⟨t487, A80, H⟩ := H
     replace H : (some (t487, 0)) = some (r1, r2) := H
     have A8 := Ak A80
     clear A80
     simp only [Option.some.injEq, Prod.mk.injEq] at H
     obtain ⟨rfl, rfl⟩ := H
     go_wp2_with (first | ((with_reducible refine gate_callee (f := 71) rfl ?_); refine goesL_ (some 14) rfl rfl Try.func71 (by kernel_rfl) rfl #[.slice A1 l1.length c1] rfl (by (try simp only [lm]); rfl) ?_; (with_reducible refine (q_checkTexts.calls kj2 _ _ l1 t486 _ ?side1 ?side2 A6.out).mono ?_); (case side1 => repeat (exact (Kd.C_below HR1.out HB.out))); (case side2 => exact HC1.out); rintro e w9 ⟨rfl, hb⟩; refine ⟨_, rfl, ?_⟩; have n0_ := Ak (below_step (by exact HB.out) hb); clear HB; have HB := n0_; clear n0_; (try clear hb); (try clear hi)) | ((with_reducible refine gate_callee (f := 72) rfl ?_); refine goesL_ (some 20) rfl rfl Try.func72 (by kernel_rfl) rfl #[.int .i64 a0, .slice A1 l1.length c1] rfl (by (try simp only [lm]); rfl) ?_; (with_reducible refine (q_textBytes.calls kj2 a0 _ _ l1 t487 _ ?side1 ?side2 A8.out).mono ?_); (case side1 => repeat (exact (Kd.C_below HR1.out HB.out))); (case side2 => exact HC1.out); rintro e w10 ⟨v488, rfl, ho0, hb⟩; refine ⟨_, rfl, ?_⟩; have n0_ := Ak (Kd.R_lower ho0 (below_size (by exact HB.out))); have n1_ := Ak (below_step (by exact HB.out) hb); clear HB; have HO489 := n0_; have HB := n1_; clear n0_ n1_; (try clear hb); (try clear ho0)))
     go_ret2
     exact ⟨_, by rfl, by exact HO489.out, by exact HB.out⟩
    ·rw [if_neg c7] at H
     have c7b0 : (t486 == 0) = false := beq_eq_false_iff_ne.mpr c7
     have c7b1 : (t486 != 0) = true := bne_iff_ne.mpr c7
     simp only [Option.some.injEq, Prod.mk.injEq] at H
     obtain ⟨rfl, rfl⟩ := H
     go_wp2_with (first | ((with_reducible refine gate_callee (f := 71) rfl ?_); refine goesL_ (some 14) rfl rfl Try.func71 (by kernel_rfl) rfl #[.slice A1 l1.length c1] rfl (by (try simp only [lm]); rfl) ?_; (with_reducible refine (q_checkTexts.calls kj2 _ _ l1 t486 _ ?side1 ?side2 A6.out).mono ?_); (case side1 => repeat (exact (Kd.C_below HR1.out HB.out))); (case side2 => exact HC1.out); rintro e w11 ⟨rfl, hb⟩; refine ⟨_, rfl, ?_⟩; have n0_ := Ak (below_step (by exact HB.out) hb); clear HB; have HB := n0_; clear n0_; (try clear hb); (try clear hi)))
     go_ret2
     exact ⟨_, by rfl, by exact Kd.R_nil _ _ _ _ _, by exact HB.out⟩
def e_BestTexts.f (k : Nat) (l0 : List ByteArray) : Option (Int × Int) := (e_checkTexts.f k l0).bind fun t490 => (if t490 = 0 then ((e_encodeTexts.f k 3 l0).bind fun t491 => ((e_encodeTexts.f k 1 l0).bind fun t494 => (if (t491.length : Int) < (t494.length : Int) then (some (3, 0)) else (some (1, 0))))) else (some (0, t490)))
theorem e_BestTexts.mono : ∀ a0 k, LeO (e_BestTexts.f k a0) (e_BestTexts.f (k + 1) a0) := by
 intro a0 k
 unfold e_BestTexts.f
 repeat' first
  | (with_reducible exact e_checkTexts.mono _ _)
  | (with_reducible exact e_encodeTexts.mono _ _ _)
  | (with_reducible exact LeO.refl _)
  | (with_reducible refine LeO.ite ?_ ?_)
  | (with_reducible refine LeO.bind ?_ (fun _ => ?_))
set_option maxHeartbeats 8000000 in
set_option maxRecDepth 100000 in
theorem e_BestTexts.calls (k : Nat) (A0 : Option Addr) (c0 : Nat) (l0 : List ByteArray) (r1 : Int) (r2 : Int) (w : World) (hr0 : Kd.C Kd.string w A0 l0.length l0) (hc0 : l0.length ≤ c0) (h : e_BestTexts.f k l0 = some (r1, r2)) :
 Calls Try.prog 45 #[.slice A0 l0.length c0] w fun e w' => e = .returned (.tuple #[.int .i64 r1, .int .i64 r2]) ∧ Below w.heap.size w w' := by
 have HR0 := Ak hr0
 have HC0 := Ak hc0
 clear hr0 hc0
 have HB := Ak (Below.refl w.heap.size w)
 have H : ((e_checkTexts.f k l0).bind fun t490 => (if t490 = 0 then ((e_encodeTexts.f k 3 l0).bind fun t491 => ((e_encodeTexts.f k 1 l0).bind fun t494 => (if (t491.length : Int) < (t494.length : Int) then (some (3, 0)) else (some (1, 0))))) else (some (0, t490)))) = some (r1, r2) := h
 clear h
 replace H := Option.bind_eq_some_iff.mp H
 obtain ⟨t490, A20, H⟩ := H
 replace H : (if t490 = 0 then ((e_encodeTexts.f k 3 l0).bind fun t491 => ((e_encodeTexts.f k 1 l0).bind fun t494 => (if (t491.length : Int) < (t494.length : Int) then (some (3, 0)) else (some (1, 0))))) else (some (0, t490))) = some (r1, r2) := H
 have A2 := Ak A20
 clear A20
 by_cases c3 : t490 = 0
 ·rw [if_pos c3] at H
  have c3b0 : (t490 == 0) = true := beq_iff_eq.mpr c3
  have c3b1 : (t490 != 0) = false := bne_eq_false_iff_eq.mpr c3
  clear c3
  replace H := Option.bind_eq_some_iff.mp H
  obtain ⟨t491, A40, H⟩ := H
  replace H : ((e_encodeTexts.f k 1 l0).bind fun t494 => (if (t491.length : Int) < (t494.length : Int) then (some (3, 0)) else (some (1, 0)))) = some (r1, r2) := H
  have A4 := Ak A40
  clear A40
  replace H := Option.bind_eq_some_iff.mp H
  obtain ⟨t494, A50, H⟩ := H
  replace H : (if (t491.length : Int) < (t494.length : Int) then (some (3, 0)) else (some (1, 0))) = some (r1, r2) := H
  have A5 := Ak A50
  clear A50
  by_cases c6 : (t491.length : Int) < (t494.length : Int)
  ·rw [if_pos c6] at H
   have c6b0 : decide ((t491.length : Int) < (t494.length : Int)) = true := decide_eq_true c6
   have c6b1 : decide (t491.length < t494.length) = true := decide_eq_true (Int.ofNat_lt.mp c6)
   clear c6
   simp only [Option.some.injEq, Prod.mk.injEq] at H
   obtain ⟨rfl, rfl⟩ := H
   go_enter Try.func45, Try.ntmps45
   go_wp2_with (first | ((with_reducible refine gate_callee (f := 68) rfl ?_); refine goesL_ (some 6) rfl rfl Try.func68 (by kernel_rfl) rfl #[.slice A0 l0.length c0] rfl (by (try simp only [lm]); rfl) ?_; (with_reducible refine (e_checkTexts.calls k _ _ l0 t490 _ ?side1 ?side2 A2.out).mono ?_); (case side1 => repeat (exact HR0.out)); (case side2 => exact HC0.out); rintro e w7 ⟨rfl, hb⟩; refine ⟨_, rfl, ?_⟩; have n0_ := Ak (below_step (by exact HB.out) hb); clear HB; have HB := n0_; clear n0_; (try clear hb); (try clear hi)) | ((with_reducible refine gate_callee (f := 69) rfl ?_); refine goesL_ (some 11) rfl rfl Try.func69 (by kernel_rfl) rfl #[.int .i64 3, .slice A0 l0.length c0] rfl (by (try simp only [lm]); rfl) ?_; (with_reducible refine (e_encodeTexts.calls k 3 _ _ l0 t491 _ ?side1 ?side2 A4.out).mono ?_); (case side1 => repeat (exact (Kd.C_below HR0.out HB.out))); (case side2 => exact HC0.out); rintro e w8 ⟨v492, rfl, ho0, hb⟩; refine ⟨_, rfl, ?_⟩; have n0_ := Ak (Kd.R_lower ho0 (below_size (by exact HB.out))); have n1_ := Ak (below_step (by exact HB.out) hb); clear HB; have HO493 := n0_; have HB := n1_; clear n0_ n1_; (try clear hb); (try clear ho0); obtain ⟨Ao9, co9, eo9⟩ := Kd.R_slice HO493.out; subst eo9) | ((with_reducible refine gate_callee (f := 69) rfl ?_); refine goesL_ (some 14) rfl rfl Try.func69 (by kernel_rfl) rfl #[.int .i64 1, .slice A0 l0.length c0] rfl (by (try simp only [lm]); rfl) ?_; (with_reducible refine (e_encodeTexts.calls k 1 _ _ l0 t494 _ ?side1 ?side2 A5.out).mono ?_); (case side1 => repeat (exact (Kd.C_below HR0.out HB.out))); (case side2 => exact HC0.out); rintro e w10 ⟨v495, rfl, ho0, hb⟩; refine ⟨_, rfl, ?_⟩; have n0_ := Ak (Kd.R_elder' (by exact HO493.out) (Kd.R_base ho0) hb); have n1_ := Ak (Kd.R_lower (Kd.R_new' ho0 (Kd.R_lt (by exact HO493.out))) (below_size (by exact HB.out))); have n2_ := Ak (below_step (by exact HB.out) hb); clear HO493 HB; have HO493 := n0_; have HO496 := n1_; have HB := n2_; clear n0_ n1_ n2_; (try clear hb); (try clear ho0); obtain ⟨Ao11, co11, eo11⟩ := Kd.R_slice HO496.out; subst eo11))
   go_ret2
   exact ⟨by rfl, by exact HB.out⟩
  ·rw [if_neg c6] at H
   have c6b0 : decide ((t491.length : Int) < (t494.length : Int)) = false := decide_eq_false c6
   have c6b1 : decide (t491.length < t494.length) = false := decide_eq_false (fun h => c6 (Int.ofNat_lt.mpr h))
   clear c6
   simp only [Option.some.injEq, Prod.mk.injEq] at H
   obtain ⟨rfl, rfl⟩ := H
   go_enter Try.func45, Try.ntmps45
   go_wp2_with (first | ((with_reducible refine gate_callee (f := 68) rfl ?_); refine goesL_ (some 6) rfl rfl Try.func68 (by kernel_rfl) rfl #[.slice A0 l0.length c0] rfl (by (try simp only [lm]); rfl) ?_; (with_reducible refine (e_checkTexts.calls k _ _ l0 t490 _ ?side1 ?side2 A2.out).mono ?_); (case side1 => repeat (exact HR0.out)); (case side2 => exact HC0.out); rintro e w12 ⟨rfl, hb⟩; refine ⟨_, rfl, ?_⟩; have n0_ := Ak (below_step (by exact HB.out) hb); clear HB; have HB := n0_; clear n0_; (try clear hb); (try clear hi)) | ((with_reducible refine gate_callee (f := 69) rfl ?_); refine goesL_ (some 11) rfl rfl Try.func69 (by kernel_rfl) rfl #[.int .i64 3, .slice A0 l0.length c0] rfl (by (try simp only [lm]); rfl) ?_; (with_reducible refine (e_encodeTexts.calls k 3 _ _ l0 t491 _ ?side1 ?side2 A4.out).mono ?_); (case side1 => repeat (exact (Kd.C_below HR0.out HB.out))); (case side2 => exact HC0.out); rintro e w13 ⟨v492, rfl, ho0, hb⟩; refine ⟨_, rfl, ?_⟩; have n0_ := Ak (Kd.R_lower ho0 (below_size (by exact HB.out))); have n1_ := Ak (below_step (by exact HB.out) hb); clear HB; have HO493 := n0_; have HB := n1_; clear n0_ n1_; (try clear hb); (try clear ho0); obtain ⟨Ao14, co14, eo14⟩ := Kd.R_slice HO493.out; subst eo14) | ((with_reducible refine gate_callee (f := 69) rfl ?_); refine goesL_ (some 14) rfl rfl Try.func69 (by kernel_rfl) rfl #[.int .i64 1, .slice A0 l0.length c0] rfl (by (try simp only [lm]); rfl) ?_; (with_reducible refine (e_encodeTexts.calls k 1 _ _ l0 t494 _ ?side1 ?side2 A5.out).mono ?_); (case side1 => repeat (exact (Kd.C_below HR0.out HB.out))); (case side2 => exact HC0.out); rintro e w15 ⟨v495, rfl, ho0, hb⟩; refine ⟨_, rfl, ?_⟩; have n0_ := Ak (Kd.R_elder' (by exact HO493.out) (Kd.R_base ho0) hb); have n1_ := Ak (Kd.R_lower (Kd.R_new' ho0 (Kd.R_lt (by exact HO493.out))) (below_size (by exact HB.out))); have n2_ := Ak (below_step (by exact HB.out) hb); clear HO493 HB; have HO493 := n0_; have HO496 := n1_; have HB := n2_; clear n0_ n1_ n2_; (try clear hb); (try clear ho0); obtain ⟨Ao16, co16, eo16⟩ := Kd.R_slice HO496.out; subst eo16))
   go_ret2
   exact ⟨by rfl, by exact HB.out⟩
 ·rw [if_neg c3] at H
  have c3b0 : (t490 == 0) = false := beq_eq_false_iff_ne.mpr c3
  have c3b1 : (t490 != 0) = true := bne_iff_ne.mpr c3
  simp only [Option.some.injEq, Prod.mk.injEq] at H
  obtain ⟨rfl, rfl⟩ := H
  go_enter Try.func45, Try.ntmps45
  go_wp2_with (first | ((with_reducible refine gate_callee (f := 68) rfl ?_); refine goesL_ (some 6) rfl rfl Try.func68 (by kernel_rfl) rfl #[.slice A0 l0.length c0] rfl (by (try simp only [lm]); rfl) ?_; (with_reducible refine (e_checkTexts.calls k _ _ l0 t490 _ ?side1 ?side2 A2.out).mono ?_); (case side1 => repeat (exact HR0.out)); (case side2 => exact HC0.out); rintro e w17 ⟨rfl, hb⟩; refine ⟨_, rfl, ?_⟩; have n0_ := Ak (below_step (by exact HB.out) hb); clear HB; have HB := n0_; clear n0_; (try clear hb); (try clear hi)))
  go_ret2
  exact ⟨by rfl, by exact HB.out⟩
def q_BestTexts.f (k : Nat) (l0 : List ByteArray) : Option (Int × Int) := (q_checkTexts.f k l0).bind fun t497 => (if t497 = 0 then ((q_textBytes.f k 3 l0).bind fun t498 => ((q_textBytes.f k 1 l0).bind fun t501 => (if (t498.length : Int) < (t501.length : Int) then (some (3, 0)) else (some (1, 0))))) else (some (0, t497)))
theorem q_BestTexts.mono : ∀ a0 k, LeO (q_BestTexts.f k a0) (q_BestTexts.f (k + 1) a0) := by
 intro a0 k
 unfold q_BestTexts.f
 repeat' first
  | (with_reducible exact q_checkTexts.mono _ _)
  | (with_reducible exact q_textBytes.mono _ _ _)
  | (with_reducible exact LeO.refl _)
  | (with_reducible refine LeO.ite ?_ ?_)
  | (with_reducible refine LeO.bind ?_ (fun _ => ?_))
set_option maxHeartbeats 8000000 in
set_option maxRecDepth 100000 in
theorem q_BestTexts.calls (k : Nat) (A0 : Option Addr) (c0 : Nat) (l0 : List ByteArray) (r1 : Int) (r2 : Int) (w : World) (hr0 : Kd.C Kd.string w A0 l0.length l0) (hc0 : l0.length ≤ c0) (h : q_BestTexts.f k l0 = some (r1, r2)) :
 Calls Try.prog 46 #[.slice A0 l0.length c0] w fun e w' => e = .returned (.tuple #[.int .i64 r1, .int .i64 r2]) ∧ Below w.heap.size w w' := by
 have HR0 := Ak hr0
 have HC0 := Ak hc0
 clear hr0 hc0
 have HB := Ak (Below.refl w.heap.size w)
 have H : ((q_checkTexts.f k l0).bind fun t497 => (if t497 = 0 then ((q_textBytes.f k 3 l0).bind fun t498 => ((q_textBytes.f k 1 l0).bind fun t501 => (if (t498.length : Int) < (t501.length : Int) then (some (3, 0)) else (some (1, 0))))) else (some (0, t497)))) = some (r1, r2) := h
 clear h
 replace H := Option.bind_eq_some_iff.mp H
 obtain ⟨t497, A20, H⟩ := H
 replace H : (if t497 = 0 then ((q_textBytes.f k 3 l0).bind fun t498 => ((q_textBytes.f k 1 l0).bind fun t501 => (if (t498.length : Int) < (t501.length : Int) then (some (3, 0)) else (some (1, 0))))) else (some (0, t497))) = some (r1, r2) := H
 have A2 := Ak A20
 clear A20
 by_cases c3 : t497 = 0
 ·rw [if_pos c3] at H
  have c3b0 : (t497 == 0) = true := beq_iff_eq.mpr c3
  have c3b1 : (t497 != 0) = false := bne_eq_false_iff_eq.mpr c3
  clear c3
  replace H := Option.bind_eq_some_iff.mp H
  obtain ⟨t498, A40, H⟩ := H
  replace H : ((q_textBytes.f k 1 l0).bind fun t501 => (if (t498.length : Int) < (t501.length : Int) then (some (3, 0)) else (some (1, 0)))) = some (r1, r2) := H
  have A4 := Ak A40
  clear A40
  replace H := Option.bind_eq_some_iff.mp H
  obtain ⟨t501, A50, H⟩ := H
  replace H : (if (t498.length : Int) < (t501.length : Int) then (some (3, 0)) else (some (1, 0))) = some (r1, r2) := H
  have A5 := Ak A50
  clear A50
  by_cases c6 : (t498.length : Int) < (t501.length : Int)
  ·rw [if_pos c6] at H
   have c6b0 : decide ((t498.length : Int) < (t501.length : Int)) = true := decide_eq_true c6
   have c6b1 : decide (t498.length < t501.length) = true := decide_eq_true (Int.ofNat_lt.mp c6)
   clear c6
   simp only [Option.some.injEq, Prod.mk.injEq] at H
   obtain ⟨rfl, rfl⟩ := H
   go_enter Try.func46, Try.ntmps46
   go_wp2_with (first | ((with_reducible refine gate_callee (f := 71) rfl ?_); refine goesL_ (some 6) rfl rfl Try.func71 (by kernel_rfl) rfl #[.slice A0 l0.length c0] rfl (by (try simp only [lm]); rfl) ?_; (with_reducible refine (q_checkTexts.calls k _ _ l0 t497 _ ?side1 ?side2 A2.out).mono ?_); (case side1 => repeat (exact HR0.out)); (case side2 => exact HC0.out); rintro e w7 ⟨rfl, hb⟩; refine ⟨_, rfl, ?_⟩; have n0_ := Ak (below_step (by exact HB.out) hb); clear HB; have HB := n0_; clear n0_; (try clear hb); (try clear hi)) | ((with_reducible refine gate_callee (f := 72) rfl ?_); refine goesL_ (some 11) rfl rfl Try.func72 (by kernel_rfl) rfl #[.int .i64 3, .slice A0 l0.length c0] rfl (by (try simp only [lm]); rfl) ?_; (with_reducible refine (q_textBytes.calls k 3 _ _ l0 t498 _ ?side1 ?side2 A4.out).mono ?_); (case side1 => repeat (exact (Kd.C_below HR0.out HB.out))); (case side2 => exact HC0.out); rintro e w8 ⟨v499, rfl, ho0, hb⟩; refine ⟨_, rfl, ?_⟩; have n0_ := Ak (Kd.R_lower ho0 (below_size (by exact HB.out))); have n1_ := Ak (below_step (by exact HB.out) hb); clear HB; have HO500 := n0_; have HB := n1_; clear n0_ n1_; (try clear hb); (try clear ho0); obtain ⟨Ao9, co9, eo9⟩ := Kd.R_slice HO500.out; subst eo9) | ((with_reducible refine gate_callee (f := 72) rfl ?_); refine goesL_ (some 14) rfl rfl Try.func72 (by kernel_rfl) rfl #[.int .i64 1, .slice A0 l0.length c0] rfl (by (try simp only [lm]); rfl) ?_; (with_reducible refine (q_textBytes.calls k 1 _ _ l0 t501 _ ?side1 ?side2 A5.out).mono ?_); (case side1 => repeat (exact (Kd.C_below HR0.out HB.out))); (case side2 => exact HC0.out); rintro e w10 ⟨v502, rfl, ho0, hb⟩; refine ⟨_, rfl, ?_⟩; have n0_ := Ak (Kd.R_elder' (by exact HO500.out) (Kd.R_base ho0) hb); have n1_ := Ak (Kd.R_lower (Kd.R_new' ho0 (Kd.R_lt (by exact HO500.out))) (below_size (by exact HB.out))); have n2_ := Ak (below_step (by exact HB.out) hb); clear HO500 HB; have HO500 := n0_; have HO503 := n1_; have HB := n2_; clear n0_ n1_ n2_; (try clear hb); (try clear ho0); obtain ⟨Ao11, co11, eo11⟩ := Kd.R_slice HO503.out; subst eo11))
   go_ret2
   exact ⟨by rfl, by exact HB.out⟩
  ·rw [if_neg c6] at H
   have c6b0 : decide ((t498.length : Int) < (t501.length : Int)) = false := decide_eq_false c6
   have c6b1 : decide (t498.length < t501.length) = false := decide_eq_false (fun h => c6 (Int.ofNat_lt.mpr h))
   clear c6
   simp only [Option.some.injEq, Prod.mk.injEq] at H
   obtain ⟨rfl, rfl⟩ := H
   go_enter Try.func46, Try.ntmps46
   go_wp2_with (first | ((with_reducible refine gate_callee (f := 71) rfl ?_); refine goesL_ (some 6) rfl rfl Try.func71 (by kernel_rfl) rfl #[.slice A0 l0.length c0] rfl (by (try simp only [lm]); rfl) ?_; (with_reducible refine (q_checkTexts.calls k _ _ l0 t497 _ ?side1 ?side2 A2.out).mono ?_); (case side1 => repeat (exact HR0.out)); (case side2 => exact HC0.out); rintro e w12 ⟨rfl, hb⟩; refine ⟨_, rfl, ?_⟩; have n0_ := Ak (below_step (by exact HB.out) hb); clear HB; have HB := n0_; clear n0_; (try clear hb); (try clear hi)) | ((with_reducible refine gate_callee (f := 72) rfl ?_); refine goesL_ (some 11) rfl rfl Try.func72 (by kernel_rfl) rfl #[.int .i64 3, .slice A0 l0.length c0] rfl (by (try simp only [lm]); rfl) ?_; (with_reducible refine (q_textBytes.calls k 3 _ _ l0 t498 _ ?side1 ?side2 A4.out).mono ?_); (case side1 => repeat (exact (Kd.C_below HR0.out HB.out))); (case side2 => exact HC0.out); rintro e w13 ⟨v499, rfl, ho0, hb⟩; refine ⟨_, rfl, ?_⟩; have n0_ := Ak (Kd.R_lower ho0 (below_size (by exact HB.out))); have n1_ := Ak (below_step (by exact HB.out) hb); clear HB; have HO500 := n0_; have HB := n1_; clear n0_ n1_; (try clear hb); (try clear ho0); obtain ⟨Ao14, co14, eo14⟩ := Kd.R_slice HO500.out; subst eo14) | ((with_reducible refine gate_callee (f := 72) rfl ?_); refine goesL_ (some 14) rfl rfl Try.func72 (by kernel_rfl) rfl #[.int .i64 1, .slice A0 l0.length c0] rfl (by (try simp only [lm]); rfl) ?_; (with_reducible refine (q_textBytes.calls k 1 _ _ l0 t501 _ ?side1 ?side2 A5.out).mono ?_); (case side1 => repeat (exact (Kd.C_below HR0.out HB.out))); (case side2 => exact HC0.out); rintro e w15 ⟨v502, rfl, ho0, hb⟩; refine ⟨_, rfl, ?_⟩; have n0_ := Ak (Kd.R_elder' (by exact HO500.out) (Kd.R_base ho0) hb); have n1_ := Ak (Kd.R_lower (Kd.R_new' ho0 (Kd.R_lt (by exact HO500.out))) (below_size (by exact HB.out))); have n2_ := Ak (below_step (by exact HB.out) hb); clear HO500 HB; have HO500 := n0_; have HO503 := n1_; have HB := n2_; clear n0_ n1_ n2_; (try clear hb); (try clear ho0); obtain ⟨Ao16, co16, eo16⟩ := Kd.R_slice HO503.out; subst eo16))
   go_ret2
   exact ⟨by rfl, by exact HB.out⟩
 ·rw [if_neg c3] at H
  have c3b0 : (t497 == 0) = false := beq_eq_false_iff_ne.mpr c3
  have c3b1 : (t497 != 0) = true := bne_iff_ne.mpr c3
  simp only [Option.some.injEq, Prod.mk.injEq] at H
  obtain ⟨rfl, rfl⟩ := H
  go_enter Try.func46, Try.ntmps46
  go_wp2_with (first | ((with_reducible refine gate_callee (f := 71) rfl ?_); refine goesL_ (some 6) rfl rfl Try.func71 (by kernel_rfl) rfl #[.slice A0 l0.length c0] rfl (by (try simp only [lm]); rfl) ?_; (with_reducible refine (q_checkTexts.calls k _ _ l0 t497 _ ?side1 ?side2 A2.out).mono ?_); (case side1 => repeat (exact HR0.out)); (case side2 => exact HC0.out); rintro e w17 ⟨rfl, hb⟩; refine ⟨_, rfl, ?_⟩; have n0_ := Ak (below_step (by exact HB.out) hb); clear HB; have HB := n0_; clear n0_; (try clear hb); (try clear hi)))
  go_ret2
  exact ⟨by rfl, by exact HB.out⟩
-- (written by hand)
/-- A state of type 75 at block g of W; what its slices lead to came in by w0. -/
def IsS75 (w0 W : World) (g : Nat) (f0 : List Int) (f1 : Bool) : Prop := ∃ A0 c0, W.heap[g]? = some (.cells #[.slice A0 f0.length c0, .bool f1] 75 (0, 0)) ∧ w0.heap.size ≤ g ∧ (f0.length ≤ c0 ∧ Kd.C (Kd.int .u8) w0 A0 f0.length f0)
theorem IsS75.grown {w0 W : World} {g : Nat} {f0 : List Int} {f1 : Bool} {W1 : World} {row : Option Nat} (h : IsS75 w0 W g f0 f1) (hw : W.grownBy W1 row) (hne : some g ≠ row) : IsS75 w0 W1 g f0 f1 := by
 obtain ⟨A0, c0, hb, hg, hr0⟩ := h
 exact ⟨A0, c0, blk_grown hb hw hne, hg, hr0⟩
theorem IsS75.own_neN {w0 W : World} {g : Nat} {f0 : List Int} {f1 : Bool} {α : Type} {d : Kd α} {e : Nat} {base : Nat} {ok : Nat → Prop} {v : Value} {xs : List α} (h : IsS75 w0 W g f0 f1) (ho : Kd.N d e W base ok v xs) (ht : e ≠ 75) : some g ≠ v.ownBlock := by
 obtain ⟨A0, c0, hb, hg, hr0⟩ := h
 exact Kd.N_ne ho hb ht
theorem IsS75.fresh {w0 W : World} {g : Nat} {f0 : List Int} {f1 : Bool} (h : IsS75 w0 W g f0 f1) : ∀ k, W.heap.size ≤ k → k ≠ g := by
 obtain ⟨A0, c0, hb, hg, hr0⟩ := h
 exact Kd.freshB hb
theorem IsS75.kept {w0 W : World} {g : Nat} {f0 : List Int} {f1 : Bool} {W1 : World} {S : Nat → Prop} (h : IsS75 w0 W g f0 f1) (hk : Kept W W1 S) (hne : ¬ S g) : IsS75 w0 W1 g f0 f1 := by
 obtain ⟨A0, c0, hb, hg, hr0⟩ := h
 exact ⟨A0, c0, blk_kept hb hk hne, hg, hr0⟩
theorem IsS75.below {w0 W : World} {g : Nat} {f0 : List Int} {f1 : Bool} {W1 : World} (h : IsS75 w0 W g f0 f1) (hw : Below W.heap.size W W1) : IsS75 w0 W1 g f0 f1 := h.grown (grown_of_below hw none) (by simp)
theorem IsS75.alloc {w0 W : World} {g : Nat} {f0 : List Int} {f1 : Bool} (h : IsS75 w0 W g f0 f1) (o : Obj) : IsS75 w0 (W.alloc o) g f0 f1 := h.below (below_alloc (Below.refl _ _) o)
theorem IsS75.drewN {w0 W : World} {g : Nat} {f0 : List Int} {f1 : Bool} (h : IsS75 w0 W g f0 f1) (m : Nat) : IsS75 w0 (W.drewN m) g f0 f1 := h
theorem IsS75.drew {w0 W : World} {g : Nat} {f0 : List Int} {f1 : Bool} (h : IsS75 w0 W g f0 f1) : IsS75 w0 W.drew g f0 f1 := h
theorem IsS75.at_ {w0 W : World} {g : Nat} {f0 : List Int} {f1 : Bool} {w' : World} {m : Nat} (hq : W.drewN m = w') (h : IsS75 w0 W g f0 f1) : IsS75 w0 w' g f0 f1 := by subst hq; exact IsS75.drewN h m
theorem IsS75.apart {w0 W : World} {g : Nat} {f0 : List Int} {f1 : Bool} {α : Type} {d : Kd α} {e : Nat} {base : Nat} {ok : Nat → Prop} {v : Value} {xs : List α} (h : IsS75 w0 W g f0 f1) (ho : d.R e W base ok v xs) (ht : ∀ q, q ∈ e :: d.E → q ≠ 75) : d.R e W base (fun k => ok k ∧ k ≠ g) v xs := by
 obtain ⟨A0, c0, hb, hg, hr0⟩ := h
 exact Kd.R_types ho hb ht
theorem IsS75.own_ne {w0 W : World} {g : Nat} {f0 : List Int} {f1 : Bool} {α : Type} {d : Kd α} {e : Nat} {base : Nat} {ok : Nat → Prop} {v : Value} {xs : List α} (h : IsS75 w0 W g f0 f1) (ho : d.R e W base ok v xs) (ht : e ≠ 75) : some g ≠ v.ownBlock := by
 obtain ⟨A0, c0, hb, hg, hr0⟩ := h
 exact Kd.R_ne ho hb ht
theorem IsS75.apartQ {w0 W : World} {g : Nat} {f0 : List Int} {f1 : Bool} {α : Type} {d : Kd α} {e : Nat} {base : Nat} {ok : Nat → Prop} {v : Value} {xs : List α} (h : IsS75 w0 W g f0 f1) (ho : d.Q e W base ok v xs) (ht : ∀ q, q ∈ e :: d.E → q ≠ 75) : d.Q e W base (fun k => ok k ∧ k ≠ g) v xs := by
 obtain ⟨A0, c0, hb, hg, hr0⟩ := h
 exact Kd.Q_types ho hb ht
theorem IsS75.own_neQ {w0 W : World} {g : Nat} {f0 : List Int} {f1 : Bool} {α : Type} {d : Kd α} {e : Nat} {base : Nat} {ok : Nat → Prop} {v : Value} {xs : List α} (h : IsS75 w0 W g f0 f1) (ho : d.Q e W base ok v xs) (ht : e ≠ 75) : some g ≠ v.ownBlock := by
 obtain ⟨A0, c0, hb, hg, hr0⟩ := h
 exact Kd.Q_ne ho hb ht
theorem IsS75.apartS {w0 W : World} {g : Nat} {f0 : List Int} {f1 : Bool} {α : Type} {d : Kd α} {e : Nat} {base : Nat} {ok : Nat → Prop} {v : Value} {xs : List α} (h : IsS75 w0 W g f0 f1) (ho : d.S e W base ok v xs) (ht : ∀ q, q ∈ e :: d.E → q ≠ 75) : d.S e W base (fun k => ok k ∧ k ≠ g) v xs := by
 obtain ⟨A0, c0, hb, hg, hr0⟩ := h
 exact Kd.S_types ho hb ht
theorem IsS75.own_neS {w0 W : World} {g : Nat} {f0 : List Int} {f1 : Bool} {α : Type} {d : Kd α} {e : Nat} {base : Nat} {ok : Nat → Prop} {v : Value} {xs : List α} (h : IsS75 w0 W g f0 f1) (ho : d.S e W base ok v xs) (ht : e ≠ 75) : some g ≠ v.ownBlock := by
 obtain ⟨A0, c0, hb, hg, hr0⟩ := h
 exact Kd.S_ne ho hb ht
theorem IsS75.lt {w0 W : World} {g : Nat} {f0 : List Int} {f1 : Bool} (h : IsS75 w0 W g f0 f1) : g < W.heap.size := by
 obtain ⟨A0, c0, hb, hg, hr0⟩ := h
 exact blk_lt hb
theorem IsS75.ge {w0 W : World} {g : Nat} {f0 : List Int} {f1 : Bool} (h : IsS75 w0 W g f0 f1) : w0.heap.size ≤ g := by
 obtain ⟨A0, c0, hb, hg, hr0⟩ := h
 exact hg
theorem IsS75.ne_blk {w0 W : World} {g : Nat} {f0 : List Int} {f1 : Bool} {a : Nat} {cs : Array Value} {t : TypeId} {fr : Nat × Nat} (h : IsS75 w0 W g f0 f1) (hb2 : W.heap[a]? = some (.cells cs t fr)) (ht : t ≠ 75) : g ≠ a := by
 obtain ⟨A0, c0, hb, hg, hr0⟩ := h
 rintro rfl
 rw [hb] at hb2
 injection hb2 with hb2
 injection hb2 with _ ht2
 exact ht ht2.symm
theorem IsS75.far {w0 W : World} {g : Nat} {f0 : List Int} {f1 : Bool} {p : Addr} (h : IsS75 w0 W g f0 f1) (hne : g ≠ p.block) (u : Value) : IsS75 w0 (W.setCell p u) g f0 f1 := by
 obtain ⟨A0, c0, hb, hg, hr0⟩ := h
 exact ⟨A0, c0, blk_far hb hne u, hg, hr0⟩
theorem cellS75_0 {W : World} {g : Nat} {A0 : Option Addr} {c0 : Nat} {f0 : List Int} {f1 : Bool} (h : W.heap[g]? = some (.cells #[.slice A0 f0.length c0, .bool f1] 75 (0, 0))) : W.cell? ⟨g, 0, none⟩ = some (.slice A0 f0.length c0) := (blk_cell h 0).trans rfl
theorem cellS75_1 {W : World} {g : Nat} {A0 : Option Addr} {c0 : Nat} {f0 : List Int} {f1 : Bool} (h : W.heap[g]? = some (.cells #[.slice A0 f0.length c0, .bool f1] 75 (0, 0))) : W.cell? ⟨g, 1, none⟩ = some (.bool f1) := (blk_cell h 1).trans rfl
theorem IsS75.set_1 {w0 W : World} {g : Nat} {f0 : List Int} {f1 : Bool} (h : IsS75 w0 W g f0 f1) (x : Bool) : IsS75 w0 (W.setCell ⟨g, 1, none⟩ (.bool x)) g f0 x := by
 obtain ⟨A0, c0, hb, hg, hr0⟩ := h
 exact ⟨A0, c0, by simpa using blk_set hb 1 (.bool x), hg, hr0⟩
theorem IsS75.new (w0 W : World) (A0 : Option Addr) (c0 : Nat) (f0 : List Int) (f1 : Bool) (hB : Below w0.heap.size w0 W) (hr0 : (f0.length ≤ c0 ∧ Kd.C (Kd.int .u8) w0 A0 f0.length f0)) : IsS75 w0 (W.alloc (.cells #[.slice A0 f0.length c0, .bool f1] 75)) W.heap.size f0 f1 := ⟨A0, c0, by simpa using heap_alloc_new W _, hB.size, hr0⟩
theorem IsS75.setv_0 {w0 W : World} {g : Nat} {f0 : List Int} {f1 : Bool} (h : IsS75 w0 W g f0 f1) {A : Option Addr} {c : Nat} {l : List Int} (hn : l.length ≤ c ∧ Kd.C (Kd.int .u8) w0 A l.length l) : IsS75 w0 (W.setCell ⟨g, 0, none⟩ (.slice A l.length c)) g l f1 := by
 obtain ⟨A0, c0, hb, hg, hr0⟩ := h
 exact ⟨_, _, by simpa using blk_set hb 0 (.slice A l.length c), hg, hn⟩
theorem IsS75.setw_0 {w0 W : World} {g : Nat} {f0 : List Int} {f1 : Bool} (h : IsS75 w0 W g f0 f1) {A : Option Addr} {n c : Nat} {l : List Int} (hl : l.length = n) (hn : l.length ≤ c ∧ Kd.C (Kd.int .u8) w0 A l.length l) : IsS75 w0 (W.setCell ⟨g, 0, none⟩ (.slice A n c)) g l f1 := by
 subst hl
 exact h.setv_0 hn
def q_reader_byte.f (s0_0 : List Int) (s0_1 : Bool) : Option (Int × List Int × Bool) := some (wrap64 (s0_0.headD 0), s0_0.tail, s0_1 || s0_0.isEmpty)
set_option maxHeartbeats 4000000 in
theorem q_reader_byte.calls (g : Nat) (s0_0 : List Int) (s0_1 : Bool) (r1 : Int) (r2 : List Int) (r3 : Bool) (w0 w : World) (hI : IsS75 w0 w g s0_0 s0_1) (hB : Below w0.heap.size w0 w) (h : q_reader_byte.f s0_0 s0_1 = some (r1, r2, r3)) :
 Calls Try.prog 59 #[.pointer (some ⟨g, 0, none⟩)] w fun e w' => e = .returned (.int .i64 r1) ∧ IsS75 w0 w' g r2 r3 ∧ Below w0.heap.size w0 w' ∧ KeepBut w w' g none := by
 simp only [q_reader_byte.f, Option.some.injEq, Prod.mk.injEq] at h
 obtain ⟨rfl, rfl, rfl⟩ := h
 obtain ⟨A0, c0, hb, hg, hle, hr⟩ := hI
 cases s0_0 with
 | nil =>
  have hc0 : w.cell? ⟨g, 0, none⟩ = some (.slice A0 0 c0) := (blk_cell hb 0).trans rfl
  have hc1 : w.cell? ⟨g, 1, none⟩ = some (.bool s0_1) := (blk_cell hb 1).trans rfl
  have hf1 : w.frozen? ⟨g, 1, none⟩ = false := blk_frozen hb 1
  have A := Ak hb
  have A2 := Ak hr
  clear hb hr
  go_enter Try.func59, Try.ntmps59
  go_wp2
  go_ret
  refine ⟨by simp [wrap64], ?_, below_set hB hg, (KeepBut.refl _ _ _).set_ _ _⟩
  have := IsS75.set_1 (⟨A0, c0, A.out, hg, hle, A2.out⟩ : IsS75 w0 w g [] s0_1) true
  simpa using this
 | cons x l =>
  obtain ⟨b, off, rfl, hc⟩ := C_addr (z := 0) hr (by simp)
  have hx : w0.cell? ⟨b, off, none⟩ = some (.int .u8 x) := by simpa using hc 0 (by simp)
  have hx' : w.cell? ⟨b, off, none⟩ = some (.int .u8 x) := (hB.cell (World.block_lt_of_cell? _ _ hx)).trans hx
  have hc0 : w.cell? ⟨g, 0, none⟩ = some (.slice (some ⟨b, off, none⟩) (l.length + 1) c0) := (blk_cell hb 0).trans rfl
  have hf0 : w.frozen? ⟨g, 0, none⟩ = false := blk_frozen hb 0
  have hle' : l.length + 1 ≤ c0 := hle
  have A := Ak hb
  have A2 := Ak hr
  have A3 := Ak hc
  have A4 := Ak hx
  clear hb hr hc hx
  go_enter Try.func59, Try.ntmps59
  go_wp2
  ·rename_i h1
   go_ret
   obtain rfl : l = [] := List.eq_nil_of_length_eq_zero (by omega)
   refine ⟨by simp, ?_, below_set hB hg, (KeepBut.refl _ _ _).set_ _ _⟩
   refine ⟨some ⟨b, off, none⟩, 0, by simpa using blk_set A.out 0 _, hg, Nat.le_refl _, ?_⟩
   exact Kd.C_of_reads (d := 0) ⟨rfl, by simp, fun h => absurd h (by simp)⟩
  ·rename_i h1
   go_ret
   refine ⟨by simp, ?_, below_set hB hg, (KeepBut.refl _ _ _).set_ _ _⟩
   refine ⟨some ⟨b, off + 1, none⟩, c0 - 1, by simpa using blk_set A.out 0 _, hg, by omega, ?_⟩
   exact C_from (xs := x :: l) A2.out.2.1 A3.out 1
def q_reader_count.l0 : Nat → Int → Int → List Int → Bool → Option (Int × List Int × Bool)
 | 0, _, _, _, _ => none
 | k + 1, x3, x4, x1000, x1001 => if x4 < 56 then ((q_reader_byte.f x1000 x1001).bind fun bt504 => (if 0 ≤ x4 then (if bt504.1 < 128 then (some (Go.bits .or .i64 x3 (shl .i64 (Go.bits .and .i64 bt504.1 127) x4), bt504.2.1, bt504.2.2)) else (if bt504.2.2 = true then (some (Go.bits .or .i64 x3 (shl .i64 (Go.bits .and .i64 bt504.1 127) x4), bt504.2.1, bt504.2.2)) else (q_reader_count.l0 k (Go.bits .or .i64 x3 (shl .i64 (Go.bits .and .i64 bt504.1 127) x4)) (wrap64 (x4 + 7)) bt504.2.1 bt504.2.2))) else (none))) else (some (0, x1000, true))
def q_reader_count.f (k : Nat) (s0_0 : List Int) (s0_1 : Bool) : Option (Int × List Int × Bool) := q_reader_count.l0 k 0 0 s0_0 s0_1
theorem q_reader_count.mono_l : ∀ k, (∀ y0 y1 y2 y3, LeO (q_reader_count.l0 k y0 y1 y2 y3) (q_reader_count.l0 (k + 1) y0 y1 y2 y3))
 | 0 => fun _ _ _ _ r h => by simp [q_reader_count.l0] at h
 | k + 1 => by
  have ih0 := q_reader_count.mono_l k
  ·intro y0 y1 y2 y3
   unfold q_reader_count.l0
   repeat' first
   | (with_reducible exact ih0 _ _ _ _)
   | (with_reducible exact LeO.refl _)
   | (with_reducible refine LeO.ite ?_ ?_)
   | (with_reducible refine LeO.bind ?_ (fun _ => ?_))
theorem q_reader_count.mono : ∀ a0 a1 k, LeO (q_reader_count.f k a0 a1) (q_reader_count.f (k + 1) a0 a1) := by
 intro a0 a1 k
 have ih0 := q_reader_count.mono_l k
 unfold q_reader_count.f
 repeat' first
  | (with_reducible exact ih0 _ _ _ _)
set_option maxHeartbeats 8000000 in
set_option maxRecDepth 100000 in
theorem q_reader_count.calls (k : Nat) (g : Nat) (s0_0 : List Int) (s0_1 : Bool) (r1 : Int) (r2 : List Int) (r3 : Bool) (w0 w : World) (hI : IsS75 w0 w g s0_0 s0_1) (hB : Below w0.heap.size w0 w) (h : q_reader_count.f k s0_0 s0_1 = some (r1, r2, r3)) :
 Calls Try.prog 60 #[.pointer (some ⟨g, 0, none⟩)] w fun e w' => e = .returned (.int .i64 r1) ∧ IsS75 w0 w' g r2 r3 ∧ Below w0.heap.size w0 w' ∧ KeepBut w w' g none := by
 have HI0 := Ak hI
 have HK := Ak (KeepBut.refl w g none)
 have HL := Ak hB.size
 clear hI
 have HW0 := Ak hB.size
 have HB := Ak hB
 have HBZ := Ak hB
 clear hB
 have H : (q_reader_count.l0 k 0 0 s0_0 s0_1) = some (r1, r2, r3) := h
 clear h
 have H' := Ak H
 clear H
 go_enter Try.func60, Try.ntmps60
 go_wp2
 go_loopg [3, 4] k (fun kq v3 v4 w' => ∃ (x3_1 : Int) (x4_1 : Int) (x1000_1 : List Int) (x1001_1 : Bool), v3 = .int .i64 x3_1 ∧ v4 = .int .i64 x4_1 ∧ Aside0 (q_reader_count.l0 kq x3_1 x4_1 x1000_1 x1001_1 = some (r1, r2, r3)) ∧ Aside0 (kq ≤ k) ∧ Aside0 (IsS75 w0 w' g x1000_1 x1001_1) ∧ Aside0 (KeepBut w w' g none) ∧ Aside0 (Below w0.heap.size w0 w'))
 case atStart => exact ⟨(0), (0), (s0_0), (s0_1), (by rfl), (by rfl), H', ⟨Nat.le_refl _⟩, ⟨by exact HI0.out⟩, ⟨by exact HK.out⟩, ⟨by exact HB.out⟩⟩
 case round =>
  clear H'
  obtain ⟨x3_1, x4_1, x1000_1, x1001_1, rfl, rfl, HA, HK1, HI0, HK, HB⟩ := hrel
  cases gk with
  | zero => exact absurd HA.out (by simp [q_reader_count.l0])
  | succ k1 =>
   have H := HA.out
   clear HA
   simp only [q_reader_count.l0] at H
   by_cases c2 : x4_1 < 56
   ·rw [if_pos c2] at H
    have c2b0 : decide (x4_1 < 56) = true := decide_eq_true c2
    clear c2
    replace H := Option.bind_eq_some_iff.mp H
    obtain ⟨⟨t504, t505, t506⟩, A30, H⟩ := H
    replace H : (if 0 ≤ x4_1 then (if t504 < 128 then (some (Go.bits .or .i64 x3_1 (shl .i64 (Go.bits .and .i64 t504 127) x4_1), t505, t506)) else (if t506 = true then (some (Go.bits .or .i64 x3_1 (shl .i64 (Go.bits .and .i64 t504 127) x4_1), t505, t506)) else (q_reader_count.l0 k1 (Go.bits .or .i64 x3_1 (shl .i64 (Go.bits .and .i64 t504 127) x4_1)) (wrap64 (x4_1 + 7)) t505 t506))) else (none)) = some (r1, r2, r3) := H
    have A3 := Ak A30
    clear A30
    by_cases c4 : 0 ≤ x4_1
    ·rw [if_pos c4] at H
     have c4b0 := eq_true c4
     have c4b1 : decide (0 ≤ x4_1) = true := decide_eq_true c4
     clear c4
     obtain ⟨ji5, hji5⟩ : ∃ j_ : Int, (shl .i64 (Go.bits .and .i64 t504 127) x4_1) = j_ := ⟨_, rfl⟩
     replace H : (if t504 < 128 then (some (Go.bits .or .i64 x3_1 (ji5), t505, t506)) else (if t506 = true then (some (Go.bits .or .i64 x3_1 (ji5), t505, t506)) else (q_reader_count.l0 k1 (Go.bits .or .i64 x3_1 (ji5)) (wrap64 (x4_1 + 7)) t505 t506))) = some (r1, r2, r3) := by (rw [hji5] at H; exact H)
     (try rw [hji5] at A3)
     have hji5_ : (IntKind.i64.wrap ((Go.bits .and .i64 t504 127) * 2 ^ min x4_1.toNat 64)) = ji5 := hji5
     have hji5z : x4_1 ≤ 64 → (IntKind.i64.wrap ((Go.bits .and .i64 t504 127) * 2 ^ x4_1.toNat)) = ji5 := shl_small hji5
     have hji5y : (wrap64 ((Go.bits .and .i64 t504 127) * 2 ^ min x4_1.toNat 64)) = ji5 := (i64_w _).symm.trans hji5_
     have hji5x : x4_1 ≤ 64 → (wrap64 ((Go.bits .and .i64 t504 127) * 2 ^ x4_1.toNat)) = ji5 := fun h_ => (i64_w _).symm.trans (hji5z h_)
     by_cases c6 : t504 < 128
     ·rw [if_pos c6] at H
      have c6b0 : decide (t504 < 128) = true := decide_eq_true c6
      clear c6
      simp only [Option.some.injEq, Prod.mk.injEq] at H
      obtain ⟨rfl, rfl, rfl⟩ := H
      go_wp2_with (first | ((with_reducible refine gate_callee (f := 59) rfl ?_); refine goesL_ (some 11) rfl rfl Try.func59 (by kernel_rfl) rfl #[.pointer (some ⟨g, 0, none⟩)] rfl (by (try simp only [lm]); rfl) ?_; (with_reducible refine (q_reader_byte.calls g x1000_1 x1001_1 t504 t505 t506 w0 _ ?side1 ?side2 A3.out).mono ?_); (case side1 => exact HI0.out); (case side2 => exact HB.out); rintro e w7 ⟨rfl, hi, hb, hk⟩; refine ⟨_, rfl, ?_⟩; have n0_ := Ak (KeepBut.trans (by exact HK.out) hk (.inl rfl)); have n1_ := Ak (hb); have n2_ := Ak (hi); clear HK HB HI0; have HK := n0_; have HB := n1_; have HI0 := n2_; clear n0_ n1_ n2_; (try clear hb); (try clear hk); (try clear hi)))
      go_ret
      exact ⟨by rfl, by exact HI0.out, by exact HB.out, by exact HK.out⟩
     ·rw [if_neg c6] at H
      have c6b0 : decide (t504 < 128) = false := decide_eq_false c6
      clear c6
      by_cases c8 : t506 = true
      ·subst c8
       replace H : (some (Go.bits .or .i64 x3_1 (ji5), t505, true)) = some (r1, r2, r3) := by rw [if_pos rfl] at H; exact H
       simp only [Option.some.injEq, Prod.mk.injEq] at H
       obtain ⟨rfl, rfl, rfl⟩ := H
       go_wp2_with (first | ((with_reducible refine gate_callee (f := 59) rfl ?_); refine goesL_ (some 11) rfl rfl Try.func59 (by kernel_rfl) rfl #[.pointer (some ⟨g, 0, none⟩)] rfl (by (try simp only [lm]); rfl) ?_; (with_reducible refine (q_reader_byte.calls g x1000_1 x1001_1 t504 t505 true w0 _ ?side1 ?side2 A3.out).mono ?_); (case side1 => exact HI0.out); (case side2 => exact HB.out); rintro e w9 ⟨rfl, hi, hb, hk⟩; refine ⟨_, rfl, ?_⟩; have n0_ := Ak (KeepBut.trans (by exact HK.out) hk (.inl rfl)); have n1_ := Ak (hb); have n2_ := Ak (hi); clear HK HB HI0; have HK := n0_; have HB := n1_; have HI0 := n2_; clear n0_ n1_ n2_; (try clear hb); (try clear hk); (try clear hi); obtain ⟨ASz10_0, cSz10_0, HGz10, hgz10, HSz10_0⟩ := HI0.out; have hcz10_0 := cellS75_0 HGz10; have hcz10_1 := cellS75_1 HGz10; have hfz10_0 := blk_frozen HGz10 0; have hfz10_1 := blk_frozen HGz10 1; have HCSz10_0 := HSz10_0.1; replace HSz10_0 := HSz10_0.2; clear HGz10 hgz10))
       go_ret
       exact ⟨by rfl, by exact HI0.out, by exact HB.out, by exact HK.out⟩
      ·replace c8 := Bool.eq_false_iff.mpr c8
       subst c8
       replace H : (q_reader_count.l0 k1 (Go.bits .or .i64 x3_1 (ji5)) (wrap64 (x4_1 + 7)) t505 false) = some (r1, r2, r3) := by rw [if_neg (show ¬ (false = true) by decide)] at H; exact H
       have H' := Ak H
       clear H
       go_wp2_with (first | ((with_reducible refine gate_callee (f := 59) rfl ?_); refine goesL_ (some 11) rfl rfl Try.func59 (by kernel_rfl) rfl #[.pointer (some ⟨g, 0, none⟩)] rfl (by (try simp only [lm]); rfl) ?_; (with_reducible refine (q_reader_byte.calls g x1000_1 x1001_1 t504 t505 false w0 _ ?side1 ?side2 A3.out).mono ?_); (case side1 => exact HI0.out); (case side2 => exact HB.out); rintro e w11 ⟨rfl, hi, hb, hk⟩; refine ⟨_, rfl, ?_⟩; have n0_ := Ak (KeepBut.trans (by exact HK.out) hk (.inl rfl)); have n1_ := Ak (hb); have n2_ := Ak (hi); clear HK HB HI0; have HK := n0_; have HB := n1_; have HI0 := n2_; clear n0_ n1_ n2_; (try clear hb); (try clear hk); (try clear hi); obtain ⟨ASz12_0, cSz12_0, HGz12, hgz12, HSz12_0⟩ := HI0.out; have hcz12_0 := cellS75_0 HGz12; have hcz12_1 := cellS75_1 HGz12; have hfz12_0 := blk_frozen HGz12 0; have hfz12_1 := blk_frozen HGz12 1; have HCSz12_0 := HSz12_0.1; replace HSz12_0 := HSz12_0.2; clear HGz12 hgz12))
       go_roundg k1
       case measure => have := HK1.out; omega
       case rel => exact ⟨(Go.bits .or .i64 x3_1 (ji5)), (wrap64 (x4_1 + 7)), (t505), (false), (by rfl), (by rfl), H', ⟨by have := HK1.out; omega⟩, ⟨by exact HI0.out⟩, ⟨by exact HK.out⟩, ⟨by exact HB.out⟩⟩
    ·rw [if_neg c4] at H
     exact absurd H (by simp)
   ·rw [if_neg c2] at H
    have c2b0 : decide (x4_1 < 56) = false := decide_eq_false c2
    clear c2
    simp only [Option.some.injEq, Prod.mk.injEq] at H
    obtain ⟨rfl, rfl, rfl⟩ := H
    obtain ⟨ASz13_0, cSz13_0, HGz13, hgz13, HSz13_0⟩ := HI0.out
    have hcz13_0 := cellS75_0 HGz13
    have hcz13_1 := cellS75_1 HGz13
    have hfz13_0 := blk_frozen HGz13 0
    have hfz13_1 := blk_frozen HGz13 1
    have HCSz13_0 := HSz13_0.1
    replace HSz13_0 := HSz13_0.2
    clear HGz13 hgz13
    go_wp2
    go_ret
    exact ⟨by rfl, by repeat ((with_reducible first | exact HI0.out | apply IsS75.set_1)), by repeat ((with_reducible first | exact HB.out | refine below_set ?_ (IsS75.ge HI0.out))), by repeat ((with_reducible first | exact HK.out | apply KeepBut.set_ ))⟩
end Go.Proofs.Ythhdihnaicggiaa.D
