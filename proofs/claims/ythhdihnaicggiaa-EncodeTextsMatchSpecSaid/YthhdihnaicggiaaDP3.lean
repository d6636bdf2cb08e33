/- Printed by a program of this session: Lean functions that answer as the Go functions do, with the proofs of it. No conditions beyond those in each theorem. -/
import Derived.Test.YthhdihnaicggiaaDP2
namespace Go.Proofs.Ythhdihnaicggiaa.D
open Go.RowKit Go.Proofs.YthhdihnaicggiaaW.PrintWords Go.Proofs.YthhdihnaicggiaaW.PrintLast Go.Proofs.YthhdihnaicggiaaW.PrintMore
attribute [local go_sem] max2_int min2_int max_two min_two max_three min_three max_four min_four gtr_str leq_str geq_str   -- for this text's walks alone
set_option linter.unusedVariables false
set_option linter.unusedSimpArgs false
mutual
def q_reader_unpacked.j0 : Nat → Int → Int → Bool → List Int → Bool → Option (List Int × List Int × Bool)
 | 0, _, _, _, _, _ => none
 | k + 1, x1, x2, x24, x1000, x1001 => if x24 = true then (some (([] : List Int), x1000, true)) else (if 0 ≤ x1 then (if (x1 : Int).toNat ≤ 35184372088832 then ((some (List.replicate (x1 : Int).toNat 0 : List Int)).bind fun y507 => (q_reader_unpacked.l0 k x1 x2 y507 0 (y507.length : Int) 0 x1000 x1001)) else (none)) else (none))
def q_reader_unpacked.l0 : Nat → Int → Int → List Int → Int → Int → Int → List Int → Bool → Option (List Int × List Int × Bool)
 | 0, _, _, _, _, _, _, _, _ => none
 | k + 1, x1, x2, x7, x8, x31, x32, x1000, x1001 => if x32 < x31 then (q_reader_unpacked.l1 k x1 x2 x7 x8 x32 x31 x32 x2 0 x1000 x1001) else (if 0 ≤ (wrap64 (Int.tdiv (wrap64 ((wrap64 (x1 * x2)) + 7)) 8)) then (if (wrap64 (Int.tdiv (wrap64 ((wrap64 (x1 * x2)) + 7)) 8)) ≤ (x1000.length : Int) then (some (x7, x1000.drop ((wrap64 (Int.tdiv (wrap64 ((wrap64 (x1 * x2)) + 7)) 8)) : Int).toNat, x1001)) else (none)) else (none))
def q_reader_unpacked.l1 : Nat → Int → Int → List Int → Int → Int → Int → Int → Int → Int → List Int → Bool → Option (List Int × List Int × Bool)
 | 0, _, _, _, _, _, _, _, _, _, _, _ => none
 | k + 1, x1, x2, x7, x8, x9, x31, x32, x35, x36, x1000, x1001 => if x36 < x35 then (if 0 ≤ x9 then (if x9 < (x7.length : Int) then (if 0 ≤ (wrap64 (Int.tdiv x8 8)) then (if (wrap64 (Int.tdiv x8 8)) < (x1000.length : Int) then (if 0 ≤ (wrap64 (7 - (Int.tmod x8 8))) then (q_reader_unpacked.l1 k x1 x2 (x7.set (x9 : Int).toNat (Go.bits .or .i64 (wrap64 ((rd x7 x9) * 2)) (wrap64 (Go.bits .and .u8 (shr .u8 (rd x1000 (wrap64 (Int.tdiv x8 8))) (wrap64 (7 - (Int.tmod x8 8)))) 1)))) (wrap64 (x8 + 1)) x9 x31 x32 x35 (wrap64 (x36 + 1)) x1000 x1001) else (none)) else (none)) else (none)) else (none)) else (none)) else (q_reader_unpacked.l0 k x1 x2 x7 x8 x31 (wrap64 (x32 + 1)) x1000 x1001)
end
def q_reader_unpacked.f (k : Nat) (s0_0 : List Int) (s0_1 : Bool) (a1 : Int) (a2 : Int) : Option (List Int × List Int × Bool) := if a2 > 60 then (q_reader_unpacked.j0 k a1 a2 true s0_0 s0_1) else (q_reader_unpacked.j0 k a1 a2 (decide ((wrap64 (Int.tdiv (wrap64 ((wrap64 (a1 * a2)) + 7)) 8)) > (s0_0.length : Int))) s0_0 s0_1)
theorem q_reader_unpacked.mono_l : ∀ k, (∀ y0 y1 y2 y3 y4, LeO (q_reader_unpacked.j0 k y0 y1 y2 y3 y4) (q_reader_unpacked.j0 (k + 1) y0 y1 y2 y3 y4)) ∧ (∀ y0 y1 y2 y3 y4 y5 y6 y7, LeO (q_reader_unpacked.l0 k y0 y1 y2 y3 y4 y5 y6 y7) (q_reader_unpacked.l0 (k + 1) y0 y1 y2 y3 y4 y5 y6 y7)) ∧ (∀ y0 y1 y2 y3 y4 y5 y6 y7 y8 y9 y10, LeO (q_reader_unpacked.l1 k y0 y1 y2 y3 y4 y5 y6 y7 y8 y9 y10) (q_reader_unpacked.l1 (k + 1) y0 y1 y2 y3 y4 y5 y6 y7 y8 y9 y10))
 | 0 => ⟨fun _ _ _ _ _ r h => by simp [q_reader_unpacked.j0] at h, fun _ _ _ _ _ _ _ _ r h => by simp [q_reader_unpacked.l0] at h, fun _ _ _ _ _ _ _ _ _ _ _ r h => by simp [q_reader_unpacked.l1] at h⟩
 | k + 1 => by
  obtain ⟨ih0, ih1, ih2⟩ := q_reader_unpacked.mono_l k
  refine ⟨?_, ?_, ?_⟩ <;> intros
  all_goals (first | unfold q_reader_unpacked.j0 | unfold q_reader_unpacked.l0 | unfold q_reader_unpacked.l1)
  all_goals
   repeat' first
   | (with_reducible exact ih1 _ _ _ _ _ _ _ _)
   | (with_reducible exact ih2 _ _ _ _ _ _ _ _ _ _ _)
   | (with_reducible exact LeO.refl _)
   | (with_reducible refine LeO.ite ?_ ?_)
   | (with_reducible refine LeO.bind ?_ (fun _ => ?_))
theorem q_reader_unpacked.mono : ∀ a0 a1 a2 a3 k, LeO (q_reader_unpacked.f k a0 a1 a2 a3) (q_reader_unpacked.f (k + 1) a0 a1 a2 a3) := by
 intro a0 a1 a2 a3 k
 obtain ⟨ih0, ih1, ih2⟩ := q_reader_unpacked.mono_l k
 unfold q_reader_unpacked.f
 repeat' first
  | (with_reducible exact ih0 _ _ _ _ _)
  | (with_reducible refine LeO.ite ?_ ?_)
def q_reader_unpacked.T11 : Bool × List (List Nat × List Nat) := (true, [([], []), ([], []), ([], []), ([], []), ([2, 3], [2, 3]), ([4], [4]), ([5], [5]), ([], []), ([7], [7]), ([8], [8]), ([9], [9]), ([], []), ([11], [11]), ([10, 12], [10, 12]), ([13], [13]), ([], []), ([15], [15]), ([16], [16]), ([14, 17], [14, 17]), ([18], [18]), ([19], [19]), ([6, 20], [6, 20]), ([0, 1, 0, 1, 2, 3, 4, 5, 6, 7, 8, 9, 10, 11, 12, 13, 14, 15, 16, 17, 18, 19, 20, 21], [0, 1]), ([22, 21, 0, 1, 2, 3, 4, 5, 6, 7, 8, 9, 10, 11, 12, 13, 14, 15, 16, 17, 18, 19, 20, 21], [21, 22])])
def q_reader_unpacked.B11 : List Nat := [0, 0, 0, 0, 12, 28, 60, 0, 128, 384, 896, 0, 2048, 8064, 16256, 0, 32768, 98304, 262016, 524160, 1048448, 2097148, 4194303, 8388607]
theorem q_reader_unpacked.tab11 : rtab .any (opsOf Try.f89 11) = q_reader_unpacked.T11 := by kernel_rfl
theorem q_reader_unpacked.bits11 : waitsOk q_reader_unpacked.T11.2 q_reader_unpacked.B11 = true := by kernel_rfl
set_option maxHeartbeats 8000000 in
set_option maxRecDepth 100000 in
theorem q_reader_unpacked.calls (k : Nat) (g : Nat) (s0_0 : List Int) (s0_1 : Bool) (a1 : Int) (a2 : Int) (r1 : List Int) (r2 : List Int) (r3 : Bool) (w0 w : World) (hI : IsS75 w0 w g s0_0 s0_1) (hB : Below w0.heap.size w0 w) (h : q_reader_unpacked.f k s0_0 s0_1 a1 a2 = some (r1, r2, r3)) :
 Calls Try.prog 89 #[.pointer (some ⟨g, 0, none⟩), .int .i64 a1, .int .i64 a2] w fun e w' => ∃ v0_ : Value, e = .returned (v0_) ∧ Kd.R (Kd.int .i64) 3 w' w.heap.size (fun _ => True) v0_ r1 ∧ IsS75 w0 w' g r2 r3 ∧ Below w0.heap.size w0 w' ∧ KeepBut w w' g none := by
 have HI0 := Ak hI
 have HK := Ak (KeepBut.refl w g none)
 have HL := Ak hB.size
 clear hI
 have HW0 := Ak hB.size
 have HB := Ak hB
 have HBZ := Ak hB
 clear hB
 have H : (if a2 > 60 then (q_reader_unpacked.j0 k a1 a2 true s0_0 s0_1) else (q_reader_unpacked.j0 k a1 a2 (decide ((wrap64 (Int.tdiv (wrap64 ((wrap64 (a1 * a2)) + 7)) 8)) > (s0_0.length : Int))) s0_0 s0_1)) = some (r1, r2, r3) := h
 clear h
 have HC4 := Ak H
 clear H
 go_enter Try.func89, Try.ntmps89
 go_upto_region 1 with (fail)
 go_cut [24] (fun v24 wc => ∃ (kq : Nat) (x24_3 : Bool), v24 = .bool x24_3 ∧ Aside0 (q_reader_unpacked.j0 kq a1 a2 x24_3 s0_0 s0_1 = some (r1, r2, r3)) ∧ Aside0 (kq ≤ k) ∧ Aside0 (IsS75 w0 wc g s0_0 s0_1) ∧ Aside0 (KeepBut w wc g none) ∧ Aside0 (Below w0.heap.size w0 wc))
 case first =>
  have H := HC4.out
  clear HC4
  by_cases c5 : a2 > 60
  ·rw [if_pos c5] at H
   have c5b0 : decide (60 < a2) = true := decide_eq_true c5
   clear c5
   (skip)
   (try rw [c5b1])
   have H' := Ak H
   clear H
   go_wp2
   go_meet
   case rel => exact ⟨_, (true), (by rfl), H', ⟨by omega⟩, ⟨by exact HI0.out⟩, ⟨by exact HK.out⟩, ⟨by exact HB.out⟩⟩
  ·rw [if_neg c5] at H
   have c5b0 : decide (60 < a2) = false := decide_eq_false c5
   clear c5
   (skip)
   (try rw [c5b1])
   have H' := Ak H
   clear H
   obtain ⟨ASz6_0, cSz6_0, HGz6, hgz6, HSz6_0⟩ := HI0.out
   have hcz6_0 := cellS75_0 HGz6
   have hcz6_1 := cellS75_1 HGz6
   have hfz6_0 := blk_frozen HGz6 0
   have hfz6_1 := blk_frozen HGz6 1
   have HCSz6_0 := HSz6_0.1
   replace HSz6_0 := HSz6_0.2
   clear HGz6 hgz6
   go_wp2
   go_meet
   case rel => exact ⟨_, (decide ((wrap64 (Int.tdiv (wrap64 ((wrap64 (a1 * a2)) + 7)) 8)) > (s0_0.length : Int))), (by rfl), H', ⟨by omega⟩, ⟨by exact HI0.out⟩, ⟨by exact HK.out⟩, ⟨by exact HB.out⟩⟩
 case rest =>
  clear HC4
  obtain ⟨kq, x24_3, rfl, HA, HJ3, HI0, HK, HB⟩ := hcut
  cases kq with
  | zero => exact absurd HA.out (by simp [q_reader_unpacked.j0])
  | succ kj3 =>
   have H := HA.out
   clear HA
   simp only [q_reader_unpacked.j0] at H
   by_cases c7 : x24_3 = true
   ·subst c7
    replace H : (some (([] : List Int), s0_0, true)) = some (r1, r2, r3) := by rw [if_pos rfl] at H; exact H
    simp only [Option.some.injEq, Prod.mk.injEq] at H
    obtain ⟨rfl, rfl, rfl⟩ := H
    obtain ⟨ASz8_0, cSz8_0, HGz8, hgz8, HSz8_0⟩ := HI0.out
    have hcz8_0 := cellS75_0 HGz8
    have hcz8_1 := cellS75_1 HGz8
    have hfz8_0 := blk_frozen HGz8 0
    have hfz8_1 := blk_frozen HGz8 1
    have HCSz8_0 := HSz8_0.1
    replace HSz8_0 := HSz8_0.2
    clear HGz8 hgz8
    go_wp2
    go_ret
    exact ⟨_, by rfl, by exact Kd.R_nil _ _ _ _ _, by repeat ((with_reducible first | exact HI0.out | apply IsS75.set_1)), by repeat ((with_reducible first | exact HB.out | refine below_set ?_ (IsS75.ge HI0.out))), by repeat ((with_reducible first | exact HK.out | apply KeepBut.set_ ))⟩
   ·replace c7 := Bool.eq_false_iff.mpr c7
    subst c7
    replace H : (if 0 ≤ a1 then (if (a1 : Int).toNat ≤ 35184372088832 then ((some (List.replicate (a1 : Int).toNat 0 : List Int)).bind fun y507 => (q_reader_unpacked.l0 kj3 a1 a2 y507 0 (y507.length : Int) 0 s0_0 s0_1)) else (none)) else (none)) = some (r1, r2, r3) := by rw [if_neg (show ¬ (false = true) by decide)] at H; exact H
    by_cases c9 : 0 ≤ a1
    ·rw [if_pos c9] at H
     have c9b0 := eq_true c9
     have c9b1 : decide (0 ≤ a1) = true := decide_eq_true c9
     clear c9
     by_cases c10 : (a1 : Int).toNat ≤ 35184372088832
     ·rw [if_pos c10] at H
      have c10b0 := eq_true c10
      have c10b1 : decide ((a1 : Int).toNat ≤ 35184372088832) = true := decide_eq_true c10
      clear c10
      obtain ⟨y507, hy507⟩ : ∃ y_ : List Int, y_ = (List.replicate (a1 : Int).toNat 0) := ⟨_, rfl⟩
      replace H : (q_reader_unpacked.l0 kj3 a1 a2 y507 0 (y507.length : Int) 0 s0_0 s0_1) = some (r1, r2, r3) := by (have H2_ := (Option.bind_some _ _).symm.trans H; rw [hy507]; with_reducible exact H2_)
      have Ny507 := Ak hy507
      clear hy507
      have H' := Ak H
      clear H
      go_wp2_with (first | ((with_reducible refine gate_dst (N := 29) rfl ?_); (try (refine gate_guard (by rfl) ?_; dsimp only)); refine Kd.R_make (Kd.int .i64) _ 3 rfl (N := 29) rfl 22 _ _ rfl a1 rfl rfl Try.underlying22 (.int .i64 0) 8 info3 rfl (by decide) (by omega) 0 (ok := fun _ => True) (okp := fun _ => True) rfl (fun _ hk => hk) trivial (of_decide_eq_true (by (with_reducible assumption))) (Nat.le_trans (Nat.mul_le_mul_right _ (of_decide_eq_true (by (with_reducible assumption)) : a1.toNat ≤ 35184372088832)) (by omega)) (Below.refl _ _) (Nat.le_refl _) ?_; intro v508 w11 ho12 hb hg_ hnew_; clear hg_ hnew_; (rw [← Ny507.out] at ho12); have n0_ := Ak (Kd.R_lower ho12 (keep_size (w := w) (g := g) (row := none) (by exact HK.out))); have n1_ := Ak (IsS75.below (by exact HI0.out) hb); have n2_ := Ak (KeepBut.trans (by exact HK.out) (KeepBut.of_below hb g none) (.inl rfl)); have n3_ := Ak (below_step (by exact HB.out) hb); clear HI0 HK HB; have HO509 := n0_; have HI0 := n1_; have HK := n2_; have HB := n3_; clear n0_ n1_ n2_ n3_ hb ho12; obtain ⟨Ao13, co13, eo13⟩ := Kd.R_slice HO509.out; subst eo13))
      go_loopg [8, 32] kj3 (fun kq v8 v32 w' => ∃ (x7_2 : List Int) (x8_2 : Int) (x32_2 : Int), v8 = .int .i64 x8_2 ∧ v32 = .int .i64 x32_2 ∧ Aside0 (q_reader_unpacked.l0 kq a1 a2 x7_2 x8_2 (y507.length : Int) x32_2 s0_0 s0_1 = some (r1, r2, r3)) ∧ Aside0 (kq ≤ kj3) ∧ Aside0 (Kd.R (Kd.int .i64) 3 w' w.heap.size (fun _ => True) (.slice Ao13 y507.length co13) x7_2) ∧ Aside0 (IsS75 w0 w' g s0_0 s0_1) ∧ Aside0 (KeepBut w w' g none) ∧ Aside0 (Below w0.heap.size w0 w'))
      case atStart => exact ⟨(y507), (0), (0), (by rfl), (by rfl), H', ⟨Nat.le_refl _⟩, ⟨by exact HO509.out⟩, ⟨by exact HI0.out⟩, ⟨by exact HK.out⟩, ⟨by exact HB.out⟩⟩
      case round =>
       clear H'
       try clear c9b0
       try clear c9b1
       try clear c10b0
       try clear c10b1
       obtain ⟨x7_2, x8_2, x32_2, rfl, rfl, HA, HK2, HO_7, HI0, HK, HB⟩ := hrel
       have hl7_2 := (Kd.R_reads' HO_7.out).1
       rw [hl7_2] at HO_7
       (try simp only [hl7_2])
       cases gk with
       | zero => exact absurd HA.out (by simp [q_reader_unpacked.l0])
       | succ k2 =>
        have H := HA.out
        clear HA
        simp only [q_reader_unpacked.l0] at H
        by_cases c14 : x32_2 < (y507.length : Int)
        ·rw [if_pos c14] at H
         have c14b0 : decide (x32_2 < (y507.length : Int)) = true := decide_eq_true c14
         have c14l0 := c14b0
         (try rw [hl7_2] at c14l0)
         clear c14
         have H' := Ak H
         clear H
         go_wp2
         go_loopg [8, 36] k2 (fun kq v8 v36 w' => ∃ (x7_3 : List Int) (x8_3 : Int) (x36_3 : Int), v8 = .int .i64 x8_3 ∧ v36 = .int .i64 x36_3 ∧ Aside0 (q_reader_unpacked.l1 kq a1 a2 x7_3 x8_3 x32_2 (y507.length : Int) x32_2 a2 x36_3 s0_0 s0_1 = some (r1, r2, r3)) ∧ Aside0 (kq ≤ k2) ∧ Aside0 (Kd.R (Kd.int .i64) 3 w' w.heap.size (fun _ => True) (.slice Ao13 x7_2.length co13) x7_3) ∧ Aside0 (IsS75 w0 w' g s0_0 s0_1) ∧ Aside0 (KeepBut w w' g none) ∧ Aside0 (Below w0.heap.size w0 w'))
         case atStart => exact ⟨(x7_2), (x8_2), (0), (by rfl), (by rfl), H', ⟨Nat.le_refl _⟩, ⟨by exact HO_7.out⟩, ⟨by exact HI0.out⟩, ⟨by exact HK.out⟩, ⟨by exact HB.out⟩⟩
         case round =>
          clear H'
          try clear c14b0
          obtain ⟨x7_3, x8_3, x36_3, rfl, rfl, HA, HK3, HO_7, HI0, HK, HB⟩ := hrel
          have hl7_3 := (Kd.R_reads' HO_7.out).1
          rw [hl7_3] at HO_7
          (try simp only [hl7_3])
          cases gk with
          | zero => exact absurd HA.out (by simp [q_reader_unpacked.l1])
          | succ k3 =>
           have H := HA.out
           clear HA
           simp only [q_reader_unpacked.l1] at H
           by_cases c15 : x36_3 < a2
           ·rw [if_pos c15] at H
            have c15b0 : decide (x36_3 < a2) = true := decide_eq_true c15
            clear c15
            by_cases c16 : 0 ≤ x32_2
            ·rw [if_pos c16] at H
             have c16b0 : decide (0 ≤ x32_2) = true := decide_eq_true c16
             clear c16
             by_cases c17 : x32_2 < (x7_3.length : Int)
             ·rw [if_pos c17] at H
              have c17b0 : decide (x32_2 < (x7_3.length : Int)) = true := decide_eq_true c17
              have c17l0 := c17b0
              (try rw [hl7_2] at c17l0)
              (try rw [hl7_3] at c17l0)
              clear c17
              obtain ⟨ji18, hji18⟩ : ∃ j_ : Int, (wrap64 (Int.tdiv x8_3 8)) = j_ := ⟨_, rfl⟩
              replace H : (if 0 ≤ (ji18) then (if (ji18) < (s0_0.length : Int) then (if 0 ≤ (wrap64 (7 - (Int.tmod x8_3 8))) then (q_reader_unpacked.l1 k3 a1 a2 (x7_3.set (x32_2 : Int).toNat (Go.bits .or .i64 (wrap64 ((rd x7_3 x32_2) * 2)) (wrap64 (Go.bits .and .u8 (shr .u8 (rd s0_0 (ji18)) (wrap64 (7 - (Int.tmod x8_3 8)))) 1)))) (wrap64 (x8_3 + 1)) x32_2 (y507.length : Int) x32_2 a2 (wrap64 (x36_3 + 1)) s0_0 s0_1) else (none)) else (none)) else (none)) = some (r1, r2, r3) := by (rw [hji18] at H; exact H)
              have hji18w : (IntKind.i64.wrap (Int.tdiv x8_3 8)) = ji18 := (i64_w _).trans hji18
              by_cases c19 : 0 ≤ (ji18)
              ·rw [if_pos c19] at H
               have c19b0 : decide (0 ≤ (ji18)) = true := decide_eq_true c19
               clear c19
               by_cases c20 : (ji18) < (s0_0.length : Int)
               ·rw [if_pos c20] at H
                have c20b0 : decide ((ji18) < (s0_0.length : Int)) = true := decide_eq_true c20
                have c20l0 := c20b0
                (try rw [hl7_2] at c20l0)
                (try rw [hl7_3] at c20l0)
                clear c20
                obtain ⟨ji21, hji21⟩ : ∃ j_ : Int, (wrap64 (7 - (Int.tmod x8_3 8))) = j_ := ⟨_, rfl⟩
                replace H : (if 0 ≤ (ji21) then (q_reader_unpacked.l1 k3 a1 a2 (x7_3.set (x32_2 : Int).toNat (Go.bits .or .i64 (wrap64 ((rd x7_3 x32_2) * 2)) (wrap64 (Go.bits .and .u8 (shr .u8 (rd s0_0 (ji18)) (ji21)) 1)))) (wrap64 (x8_3 + 1)) x32_2 (y507.length : Int) x32_2 a2 (wrap64 (x36_3 + 1)) s0_0 s0_1) else (none)) = some (r1, r2, r3) := by (rw [hji21] at H; exact H)
                have hji21w : (IntKind.i64.wrap (7 - (Int.tmod x8_3 8))) = ji21 := (i64_w _).trans hji21
                by_cases c22 : 0 ≤ (ji21)
                ·rw [if_pos c22] at H
                 have c22b0 := eq_true c22
                 have c22b1 : decide (0 ≤ (ji21)) = true := decide_eq_true c22
                 clear c22
                 obtain ⟨ji23, hji23⟩ : ∃ j_ : Int, (shr .u8 (rd s0_0 (ji18)) (ji21)) = j_ := ⟨_, rfl⟩
                 replace H : (q_reader_unpacked.l1 k3 a1 a2 (x7_3.set (x32_2 : Int).toNat (Go.bits .or .i64 (wrap64 ((rd x7_3 x32_2) * 2)) (wrap64 (Go.bits .and .u8 (ji23) 1)))) (wrap64 (x8_3 + 1)) x32_2 (y507.length : Int) x32_2 a2 (wrap64 (x36_3 + 1)) s0_0 s0_1) = some (r1, r2, r3) := by (rw [hji23] at H; exact H)
                 have hji23_ : ((rd s0_0 (ji18)) / 2 ^ min (ji21).toNat 8) = ji23 := hji23
                 have hji23z : (ji21) ≤ 8 → ((rd s0_0 (ji18)) / 2 ^ (ji21).toNat) = ji23 := shr_small hji23
                 obtain ⟨y513, hy513⟩ : ∃ y_ : List Int, y_ = (x7_3.set (x32_2 : Int).toNat (Go.bits .or .i64 (wrap64 ((rd x7_3 x32_2) * 2)) (wrap64 (Go.bits .and .u8 (ji23) 1)))) := ⟨_, rfl⟩
                 replace H : (q_reader_unpacked.l1 k3 a1 a2 y513 (wrap64 (x8_3 + 1)) x32_2 (y507.length : Int) x32_2 a2 (wrap64 (x36_3 + 1)) s0_0 s0_1) = some (r1, r2, r3) := by (rw [hy513]; with_reducible exact H)
                 have Ny513 := Ak hy513
                 clear hy513
                 have H' := Ak H
                 clear H
                 try go_wp2
                 have n0_ := Ak (Kd.R_drew HO_7.out)
                 have n1_ := Ak (IsS75.drew HI0.out)
                 have n2_ := Ak (keep_drew HK.out)
                 have n3_ := Ak (below_drew1 HB.out)
                 clear HO_7 HI0 HK HB
                 have HO_7 := n0_
                 have HI0 := n1_
                 have HK := n2_
                 have HB := n3_
                 clear n0_ n1_ n2_ n3_
                 have p511 : 0 ≤ (x32_2 : Int) := of_decide_eq_true (by (with_reducible assumption))
                 have q511 : x32_2 < (x7_3.length : Int) := of_decide_eq_true (by (with_reducible assumption))
                 obtain ⟨ad511, e511, hx511_0⟩ := Kd.at_int (Kd.R_reads' HO_7.out).2.2 x32_2 p511 q511
                 cases e511
                 replace p511 := eq_true p511
                 replace q511 := eq_true q511
                 obtain ⟨ASz26_0, cSz26_0, HGz26, hgz26, HSz26_0⟩ := HI0.out
                 have hcz26_0 := cellS75_0 HGz26
                 have hcz26_1 := cellS75_1 HGz26
                 have hfz26_0 := blk_frozen HGz26 0
                 have hfz26_1 := blk_frozen HGz26 1
                 have HCSz26_0 := HSz26_0.1
                 replace HSz26_0 := HSz26_0.2
                 clear HGz26 hgz26
                 have HRsrz26_0 := Ak (Kd.C_below HSz26_0 HBZ.out)
                 have hfsrz26_0 : ∀ ad : Addr, ASz26_0 = some ad → 0 < s0_0.length → ad.block ≠ g := Kd.far_C 0 HSz26_0 (IsS75.ge HI0.out)
                 have p512 : 0 ≤ ((ji18) : Int) := of_decide_eq_true (by (with_reducible assumption))
                 have q512 : (ji18) < (s0_0.length : Int) := of_decide_eq_true (by (with_reducible assumption))
                 obtain ⟨ad512, e512, hx512_0⟩ := Kd.at_int HRsrz26_0.out (ji18) p512 q512
                 have hw512_0 := hx512_0
                 cases e512
                 have hne512_0 := (show ((ad512.add ((ji18)).toNat) : Addr).block ≠ g from by (rw [add_block]; exact hfsrz26_0 ad512 rfl (by omega)))
                 replace hx512_0 := keep_cell HK.out hx512_0 (by (rw [add_block]; exact hfsrz26_0 _ rfl (by omega)))
                 replace p512 := eq_true p512
                 replace q512 := eq_true q512
                 have p24 : 0 ≤ (x32_2 : Int) := of_decide_eq_true (by (with_reducible assumption))
                 have q24 : (x32_2 : Int) < ((x7_3.length : Int) : Int) := of_decide_eq_true (by (with_reducible assumption))
                 obtain ⟨go24, co24, eo24, gb24, gl24, cl24, HG24⟩ := Kd.R_form HO_7.out (by omega)
                 (cases eo24)
                 have GB24 := Ak gb24
                 have GG24 := Ak HG24
                 clear gb24 gl24 HG24
                 (simp only [add_plain] at hx511_0)
                 obtain ⟨hx24_0, hf24_0⟩ := Kd.R_celln 0 HO_7.out (x32_2 : Int) p24 q24
                 replace p24 := eq_true p24
                 replace q24 := eq_true q24
                 have HN0_go24 := Ak (show g ≠ go24 from by have h_ := IsS75.own_ne HI0.out HO_7.out (by decide); intro e_; exact h_ (by rw [e_]; rfl))
                 have HP27 := Kd.R_putn HO_7.out (x32_2 : Int) (Go.bits .or .i64 (wrap64 ((rd x7_3 x32_2) * 2)) (wrap64 (Go.bits .and .u8 (ji23) 1)))
                 rw [← Ny513.out] at HP27
                 have HQ27 := Ak HP27
                 clear HP27
                 refine start_ (n := 24) (S := fun w' => w'.cell? ⟨g, 0, none⟩ = some (.slice (some ad512) s0_0.length cSz26_0) ∧ w'.cell? ⟨g, 1, none⟩ = some (.bool s0_1) ∧ w'.cell? ⟨go24, (x32_2).toNat, none⟩ = some (.int .i64 (rd x7_3 x32_2)) ∧ w'.cell? (ad512.add ((ji18)).toNat) = some (.int .u8 (rd s0_0 (ji18)))) (ds := [23]) #[false, false, false, false, false, false, false, false, false, false, false, false, false, false, false, false, false, false, false, false, false, false, false, false] (by kernel_rfl) rfl rfl ⟨hcz26_0, hcz26_1, hx511_0, (keep_cell HK.out hw512_0 hne512_0)⟩ (fun hHeld => ?_); refine with_tabW q_reader_unpacked.tab11 q_reader_unpacked.bits11 (fun HT_ HW_ => ?_)
                 generalize wr.drew = w25 at HO_7 HI0 HK HB GG24 HQ27 hf24_0 hx24_0 hx511_0 hx512_0 hHeld ⊢
                 refine pure_ (i := 0) (N := some 38) (v := ?_) (a' := ?_) #[true, false, false, false, false, false, false, false, false, false, false, false, false, false, false, false, false, false, false, false, false, false, false, false] rfl rfl (any_of HT_.out (by kernel_rfl)) (fun _ _ _ h => h) (Or.inl ⟨by rfl, ?_⟩) ?_ ?_
                 rotate_left
                 ·intro w'
                  go_simp
                  with_reducible rfl
                 rotate_left
                 ·simp only [Act.put, List.setIfInBounds_toArray, List.set_cons_zero, List.set_cons_succ, i64_w, i32_w]
                  rfl
                 refine pure_ (i := 1) (N := some 39) (v := ?_) (a' := ?_) #[true, true, false, false, false, false, false, false, false, false, false, false, false, false, false, false, false, false, false, false, false, false, false, false] rfl rfl (any_of HT_.out (by kernel_rfl)) (fun _ _ _ h => h) (Or.inl ⟨by rfl, ?_⟩) ?_ ?_
                 rotate_left
                 ·intro w'
                  go_simp
                  with_reducible rfl
                 rotate_left
                 ·simp only [Act.put, List.setIfInBounds_toArray, List.set_cons_zero, List.set_cons_succ, i64_w, i32_w]
                  rfl
                 refine pure_ (i := 2) (N := some 40) (v := ?_) (a' := ?_) #[true, true, true, false, false, false, false, false, false, false, false, false, false, false, false, false, false, false, false, false, false, false, false, false] rfl rfl (any_of HT_.out (by kernel_rfl)) (fun _ _ _ h => h) (Or.inl ⟨by rfl, ?_⟩) ?_ ?_
                 rotate_left
                 ·intro w'
                  go_simp
                  with_reducible rfl
                 rotate_left
                 ·simp only [Act.put, List.setIfInBounds_toArray, List.set_cons_zero, List.set_cons_succ, i64_w, i32_w]
                  rfl
                 refine pure_ (i := 3) (N := some 41) (v := ?_) (a' := ?_) #[true, true, true, true, false, false, false, false, false, false, false, false, false, false, false, false, false, false, false, false, false, false, false, false] rfl rfl (any_of HT_.out (by kernel_rfl)) (fun _ _ _ h => h) (Or.inl ⟨by rfl, ?_⟩) ?_ ?_
                 rotate_left
                 ·intro w'
                  go_simp
                  with_reducible rfl
                 rotate_left
                 ·simp only [Act.put, List.setIfInBounds_toArray, List.set_cons_zero, List.set_cons_succ, i64_w, i32_w]
                  rfl
                 refine pure_ (i := 4) (N := some 42) (v := ?_) (a' := ?_) #[true, true, true, true, true, false, false, false, false, false, false, false, false, false, false, false, false, false, false, false, false, false, false, false] rfl rfl (any_of HT_.out (by kernel_rfl)) (fun _ _ _ h => h) (Or.inl ⟨by rfl, ?_⟩) ?_ ?_
                 rotate_left
                 ·intro w'
                  go_simp
                  with_reducible rfl
                 rotate_left
                 ·simp only [Act.put, List.setIfInBounds_toArray, List.set_cons_zero, List.set_cons_succ, i64_w, i32_w]
                  rfl
                 refine pure_ (i := 7) (N := some 45) (v := ?_) (a' := ?_) #[true, true, true, true, true, false, false, true, false, false, false, false, false, false, false, false, false, false, false, false, false, false, false, false] rfl rfl (any_of HT_.out (by kernel_rfl)) (fun _ _ _ h => h) (Or.inl ⟨by rfl, ?_⟩) ?_ ?_
                 rotate_left
                 ·intro w'
                  go_simp
                  with_reducible rfl
                 rotate_left
                 ·simp only [Act.put, List.setIfInBounds_toArray, List.set_cons_zero, List.set_cons_succ, i64_w, i32_w]
                  rfl
                 refine pure_ (i := 8) (N := some 46) (v := ?_) (a' := ?_) #[true, true, true, true, true, false, false, true, true, false, false, false, false, false, false, false, false, false, false, false, false, false, false, false] rfl rfl (any_of HT_.out (by kernel_rfl)) (fun _ _ _ h => h) (Or.inl ⟨by rfl, ?_⟩) ?_ ?_
                 rotate_left
                 ·intro w'
                  go_simp
                  with_reducible rfl
                 rotate_left
                 ·simp only [Act.put, List.setIfInBounds_toArray, List.set_cons_zero, List.set_cons_succ, i64_w, i32_w]
                  rfl
                 refine pure_ (i := 9) (N := some 47) (v := ?_) (a' := ?_) #[true, true, true, true, true, false, false, true, true, true, false, false, false, false, false, false, false, false, false, false, false, false, false, false] rfl rfl (any_of HT_.out (by kernel_rfl)) (fun _ _ _ h => h) (Or.inl ⟨by rfl, ?_⟩) ?_ ?_
                 rotate_left
                 ·intro w'
                  go_simp
                  with_reducible rfl
                 rotate_left
                 ·simp only [Act.put, List.setIfInBounds_toArray, List.set_cons_zero, List.set_cons_succ, i64_w, i32_w]
                  rfl
                 refine pure_ (i := 11) (N := some 49) (v := ?_) (a' := ?_) #[true, true, true, true, true, false, false, true, true, true, false, true, false, false, false, false, false, false, false, false, false, false, false, false] rfl rfl (any_of HT_.out (by kernel_rfl)) (fun _ _ _ h => h) (Or.inl ⟨by rfl, ?_⟩) ?_ ?_
                 rotate_left
                 ·intro w'
                  go_simp
                  with_reducible rfl
                 rotate_left
                 ·simp only [Act.put, List.setIfInBounds_toArray, List.set_cons_zero, List.set_cons_succ, i64_w, i32_w]
                  rfl
                 refine pure_ (i := 12) (N := some 50) (v := ?_) (a' := ?_) #[true, true, true, true, true, false, false, true, true, true, false, true, true, false, false, false, false, false, false, false, false, false, false, false] rfl rfl (any_of HT_.out (by kernel_rfl)) (fun _ _ _ h => h) (Or.inl ⟨by rfl, ?_⟩) ?_ ?_
                 rotate_left
                 ·intro w'
                  go_simp
                  with_reducible rfl
                 rotate_left
                 ·simp only [Act.put, List.setIfInBounds_toArray, List.set_cons_zero, List.set_cons_succ, i64_w, i32_w]
                  rfl
                 refine pure_ (i := 15) (N := some 53) (v := ?_) (a' := ?_) #[true, true, true, true, true, false, false, true, true, true, false, true, true, false, false, true, false, false, false, false, false, false, false, false] rfl rfl (any_of HT_.out (by kernel_rfl)) (fun _ _ _ h => h) (Or.inl ⟨by rfl, ?_⟩) ?_ ?_
                 rotate_left
                 ·intro w'
                  go_simp
                  with_reducible rfl
                 rotate_left
                 ·simp only [Act.put, List.setIfInBounds_toArray, List.set_cons_zero, List.set_cons_succ, i64_w, i32_w]
                  rfl
                 refine pure_ (i := 16) (N := some 54) (v := ?_) (a' := ?_) #[true, true, true, true, true, false, false, true, true, true, false, true, true, false, false, true, true, false, false, false, false, false, false, false] rfl rfl (any_of HT_.out (by kernel_rfl)) (fun _ _ _ h => h) (Or.inl ⟨by rfl, ?_⟩) ?_ ?_
                 rotate_left
                 ·intro w'
                  go_simp
                  with_reducible rfl
                 rotate_left
                 ·simp only [Act.put, List.setIfInBounds_toArray, List.set_cons_zero, List.set_cons_succ, i64_w, i32_w]
                  rfl
                 refine pure_ (i := 17) (N := some 55) (v := ?_) (a' := ?_) #[true, true, true, true, true, false, false, true, true, true, false, true, true, false, false, true, true, true, false, false, false, false, false, false] rfl rfl (any_of HT_.out (by kernel_rfl)) (fun _ _ _ h => h) (Or.inl ⟨by rfl, ?_⟩) ?_ ?_
                 rotate_left
                 ·intro w'
                  go_simp
                  with_reducible rfl
                 rotate_left
                 ·simp only [Act.put, List.setIfInBounds_toArray, List.set_cons_zero, List.set_cons_succ, i64_w, i32_w]
                  rfl
                 refine take_ (i := 5) (N := some 43) (v := ?_) (a' := ?_) #[true, true, true, true, true, true, false, true, true, true, false, true, true, false, false, true, true, true, false, false, false, false, false, false] rfl rfl (take_ofW HT_.out HW_.out (by kernel_rfl)) (fun _ _ _ h => h) (Or.inl ⟨by rfl, ?_⟩) hHeld ?_ ?_
                 rotate_left
                 ·rintro w' ⟨s0, s1, s2, s3⟩
                  go_simp
                  with_reducible rfl
                 rotate_left
                 ·simp only [Act.put, List.setIfInBounds_toArray, List.set_cons_zero, List.set_cons_succ, i64_w, i32_w]
                  rfl
                 refine pure_ (i := 6) (N := some 44) (v := ?_) (a' := ?_) #[true, true, true, true, true, true, true, true, true, true, false, true, true, false, false, true, true, true, false, false, false, false, false, false] rfl rfl (any_of HT_.out (by kernel_rfl)) (fun _ _ _ h => h) (Or.inl ⟨by rfl, ?_⟩) ?_ ?_
                 rotate_left
                 ·intro w'
                  go_simp
                  with_reducible rfl
                 rotate_left
                 ·simp only [Act.put, List.setIfInBounds_toArray, List.set_cons_zero, List.set_cons_succ, i64_w, i32_w]
                  rfl
                 refine take_ (i := 10) (N := some 48) (v := ?_) (a' := ?_) #[true, true, true, true, true, true, true, true, true, true, true, true, true, false, false, true, true, true, false, false, false, false, false, false] rfl rfl (take_ofW HT_.out HW_.out (by kernel_rfl)) (fun _ _ _ h => h) (Or.inl ⟨by rfl, ?_⟩) hHeld ?_ ?_
                 rotate_left
                 ·rintro w' ⟨s0, s1, s2, s3⟩
                  go_simp
                  with_reducible rfl
                 rotate_left
                 ·simp only [Act.put, List.setIfInBounds_toArray, List.set_cons_zero, List.set_cons_succ, i64_w, i32_w]
                  rfl
                 refine pure_ (i := 13) (N := some 51) (v := ?_) (a' := ?_) #[true, true, true, true, true, true, true, true, true, true, true, true, true, true, false, true, true, true, false, false, false, false, false, false] rfl rfl (any_of HT_.out (by kernel_rfl)) (fun _ _ _ h => h) (Or.inl ⟨by rfl, ?_⟩) ?_ ?_
                 rotate_left
                 ·intro w'
                  go_simp
                  with_reducible rfl
                 rotate_left
                 ·simp only [Act.put, List.setIfInBounds_toArray, List.set_cons_zero, List.set_cons_succ, i64_w, i32_w]
                  rfl
                 refine take_ (i := 14) (N := some 52) (v := ?_) (a' := ?_) #[true, true, true, true, true, true, true, true, true, true, true, true, true, true, true, true, true, true, false, false, false, false, false, false] rfl rfl (take_ofW HT_.out HW_.out (by kernel_rfl)) (fun _ _ _ h => h) (Or.inl ⟨by rfl, ?_⟩) hHeld ?_ ?_
                 rotate_left
                 ·rintro w' ⟨s0, s1, s2, s3⟩
                  go_simp
                  with_reducible rfl
                 rotate_left
                 ·simp only [Act.put, List.setIfInBounds_toArray, List.set_cons_zero, List.set_cons_succ, i64_w, i32_w]
                  rfl
                 refine pure_ (i := 18) (N := some 56) (v := ?_) (a' := ?_) #[true, true, true, true, true, true, true, true, true, true, true, true, true, true, true, true, true, true, true, false, false, false, false, false] rfl rfl (any_of HT_.out (by kernel_rfl)) (fun _ _ _ h => h) (Or.inl ⟨by rfl, ?_⟩) ?_ ?_
                 rotate_left
                 ·intro w'
                  go_simp
                  with_reducible rfl
                 rotate_left
                 ·simp only [Act.put, List.setIfInBounds_toArray, List.set_cons_zero, List.set_cons_succ, i64_w, i32_w]
                  rfl
                 refine pure_ (i := 19) (N := some 57) (v := ?_) (a' := ?_) #[true, true, true, true, true, true, true, true, true, true, true, true, true, true, true, true, true, true, true, true, false, false, false, false] rfl rfl (any_of HT_.out (by kernel_rfl)) (fun _ _ _ h => h) (Or.inl ⟨by rfl, ?_⟩) ?_ ?_
                 rotate_left
                 ·intro w'
                  go_simp
                  with_reducible rfl
                 rotate_left
                 ·simp only [Act.put, List.setIfInBounds_toArray, List.set_cons_zero, List.set_cons_succ, i64_w, i32_w]
                  rfl
                 refine pure_ (i := 20) (N := some 58) (v := ?_) (a' := ?_) #[true, true, true, true, true, true, true, true, true, true, true, true, true, true, true, true, true, true, true, true, true, false, false, false] rfl rfl (any_of HT_.out (by kernel_rfl)) (fun _ _ _ h => h) (Or.inl ⟨by rfl, ?_⟩) ?_ ?_
                 rotate_left
                 ·intro w'
                  go_simp
                  with_reducible rfl
                 rotate_left
                 ·simp only [Act.put, List.setIfInBounds_toArray, List.set_cons_zero, List.set_cons_succ, i64_w, i32_w]
                  rfl
                 refine pure_ (i := 21) (N := some 59) (v := ?_) (a' := ?_) #[true, true, true, true, true, true, true, true, true, true, true, true, true, true, true, true, true, true, true, true, true, true, false, false] rfl rfl (any_of HT_.out (by kernel_rfl)) (fun _ _ _ h => h) (Or.inl ⟨by rfl, ?_⟩) ?_ ?_
                 rotate_left
                 ·intro w'
                  go_simp
                  with_reducible rfl
                 rotate_left
                 ·simp only [Act.put, List.setIfInBounds_toArray, List.set_cons_zero, List.set_cons_succ, i64_w, i32_w]
                  rfl
                 refine pure_ (i := 22) (N := some 60) (v := ?_) (a' := ?_) #[true, true, true, true, true, true, true, true, true, true, true, true, true, true, true, true, true, true, true, true, true, true, true, false] rfl rfl (any_of HT_.out (by kernel_rfl)) (fun _ _ _ h => h) (Or.inl ⟨by rfl, ?_⟩) ?_ ?_
                 rotate_left
                 ·intro w'
                  go_simp
                  with_reducible rfl
                 rotate_left
                 ·simp only [Act.put, List.setIfInBounds_toArray, List.set_cons_zero, List.set_cons_succ, i64_w, i32_w]
                  rfl
                 refine last_ (i := 23) (N := none) #[true, true, true, true, true, true, true, true, true, true, true, true, true, true, true, true, true, true, true, true, true, true, true, true] rfl rfl (one_of HT_.out (by kernel_rfl)) (by decide) (fun K hK => ?_)
                 refine skip_ (w1 := ?_) (by rfl) rfl ?_ ?_
                 rotate_left
                 ·go_simp
                  rfl
                 refine hK.out _ _ ?_
                 clear hK K
                 refine done_ (done_of HT_.out (by kernel_rfl)) ?_
                 try go_wp2
                 (try simp only [← hl7_3])
                 go_roundg k3
                 case measure => have := HJ3.out; have := HK2.out; have := HK3.out; omega
                 case rel => exact ⟨(y513), (wrap64 (x8_3 + 1)), (wrap64 (x36_3 + 1)), (by rfl), (by rfl), H', ⟨by have := HJ3.out; have := HK2.out; have := HK3.out; omega⟩, ⟨by (try simp only [hl7_3]); exact HQ27.out⟩, ⟨by repeat ((with_reducible first | exact HI0.out | refine IsS75.far ?_ HN0_go24.out _))⟩, ⟨by repeat ((with_reducible first | exact HK.out | refine keep_far ?_ GB24.out _))⟩, ⟨by repeat ((with_reducible first | exact HB.out | refine below_set ?_ (Nat.le_trans HL.out GB24.out)))⟩⟩
                ·rw [if_neg c22] at H
                 exact absurd H (by simp)
               ·rw [if_neg c20] at H
                exact absurd H (by simp)
              ·rw [if_neg c19] at H
               exact absurd H (by simp)
             ·rw [if_neg c17] at H
              exact absurd H (by simp)
            ·rw [if_neg c16] at H
             exact absurd H (by simp)
           ·rw [if_neg c15] at H
            have c15b0 : decide (x36_3 < a2) = false := decide_eq_false c15
            clear c15
            have H' := Ak H
            clear H
            go_wp2
            (try simp only [← hl7_2, ← hl7_3])
            go_roundg k3
            case measure => have := HJ3.out; have := HK2.out; have := HK3.out; omega
            case rel => exact ⟨(x7_3), (x8_3), (wrap64 (x32_2 + 1)), (by rfl), (by rfl), H', ⟨by have := HJ3.out; have := HK2.out; have := HK3.out; omega⟩, ⟨by (try simp only [hl7_2]); (try simp only [hl7_3]); exact HO_7.out⟩, ⟨by exact HI0.out⟩, ⟨by exact HK.out⟩, ⟨by exact HB.out⟩⟩
        ·rw [if_neg c14] at H
         have c14b0 : decide (x32_2 < (y507.length : Int)) = false := decide_eq_false c14
         have c14l0 := c14b0
         (try rw [hl7_2] at c14l0)
         clear c14
         obtain ⟨ji28, hji28⟩ : ∃ j_ : Int, (wrap64 (Int.tdiv (wrap64 ((wrap64 (a1 * a2)) + 7)) 8)) = j_ := ⟨_, rfl⟩
         replace H : (if 0 ≤ (ji28) then (if (ji28) ≤ (s0_0.length : Int) then (some (x7_2, s0_0.drop ((ji28) : Int).toNat, s0_1)) else (none)) else (none)) = some (r1, r2, r3) := by (rw [hji28] at H; exact H)
         have hji28w : (IntKind.i64.wrap (Int.tdiv (wrap64 ((wrap64 (a1 * a2)) + 7)) 8)) = ji28 := (i64_w _).trans hji28
         by_cases c29 : 0 ≤ (ji28)
         ·rw [if_pos c29] at H
          have c29b0 := eq_true c29
          have c29b1 : decide (0 ≤ (ji28)) = true := decide_eq_true c29
          clear c29
          by_cases c30 : (ji28) ≤ (s0_0.length : Int)
          ·rw [if_pos c30] at H
           have c30b0 := eq_true c30
           have c30b1 : decide ((ji28) ≤ (s0_0.length : Int)) = true := decide_eq_true c30
           clear c30
           simp only [Option.some.injEq, Prod.mk.injEq] at H
           obtain ⟨rfl, rfl, rfl⟩ := H
           obtain ⟨ASz31_0, cSz31_0, HGz31, hgz31, HSz31_0⟩ := HI0.out
           have hcz31_0 := cellS75_0 HGz31
           have hcz31_1 := cellS75_1 HGz31
           have hfz31_0 := blk_frozen HGz31 0
           have hfz31_1 := blk_frozen HGz31 1
           have HCSz31_0 := HSz31_0.1
           replace HSz31_0 := HSz31_0.2
           clear HGz31 hgz31
           have HRs32 := Ak (Kd.C_below HSz31_0 HBZ.out)
           have HCs32 := Ak HCSz31_0
           have hfs32 : ∀ ad : Addr, ASz31_0 = some ad → 0 < s0_0.length → ad.block ≠ g := Kd.far_C 0 HSz31_0 (IsS75.ge HI0.out)
           obtain ⟨i032, hi032, _, hsz32, _⟩ := info_parts info5
           obtain ⟨A32, hcut32, hA32, hC32⟩ := print_drop_of (P := Try.prog) (Value.int .u8) 0 27 5 .i64 Try.underlying27 hi032 hsz32 ASz31_0 cSz31_0 s0_0 (ji28) (of_decide_eq_true (by (with_reducible assumption))) (of_decide_eq_true (by (with_reducible assumption))) HCs32.out
           have HR510 := Ak (Kd.C_of_reads (h1 := fun _ => rfl) (hA32 _ (Kd.reads_of_C HRs32.out)))
           have HC510 := Ak hC32
           have hf510 : ∀ ad : Addr, A32 = some ad → 0 < (s0_0.drop ((ji28) : Int).toNat).length → ad.block ≠ g := fun ad he h_ => (by cases he; exact Kd.foot_ne (fun W_ hk_ => Kd.C_of_reads (h1 := fun _ => rfl) (hA32 _ (Kd.reads_of_C (Kd.C_foot_ne (fun h => h) HRs32.out hfs32 W_ hk_)))) h_ (by decide))
           clear hi032 hsz32
           go_wp2
           go_ret
           exact ⟨_, by rfl, by exact Kd.R_mono (Kd.R_far (p := ⟨g, 0, none⟩) (IsS75.apart HI0.out HO_7.out (by decide)) (fun _ hk => hk.2) (_)) (fun _ hk => trivial), by repeat (exact IsS75.setw_0 (by exact HI0.out) (by simp) ⟨hC32, Kd.C_of_reads (h1 := fun _ => rfl) (hA32 _ (Kd.reads_of_C HSz31_0))⟩), by repeat ((with_reducible first | exact HB.out | refine below_set ?_ (IsS75.ge HI0.out))), by repeat ((with_reducible first | exact HK.out | apply KeepBut.set_ ))⟩
          ·rw [if_neg c30] at H
           exact absurd H (by simp)
         ·rw [if_neg c29] at H
          exact absurd H (by simp)
     ·rw [if_neg c10] at H
      exact absurd H (by simp)
    ·rw [if_neg c9] at H
     exact absurd H (by simp)
def q_reader_text.f (k : Nat) (s0_0 : List Int) (s0_1 : Bool) (a1 : ByteArray) (a2 : Int) : Option (ByteArray × List Int × Bool) := (q_reader_count.f k s0_0 s0_1).bind fun bt514 => (if bt514.2.2 = true then (some ((⟨#[]⟩ : ByteArray), bt514.2.1, true)) else (if a2 > (a1.size : Int) then (some ((⟨#[]⟩ : ByteArray), bt514.2.1, true)) else (if bt514.1 > (bt514.2.1.length : Int) then (some ((⟨#[]⟩ : ByteArray), bt514.2.1, true)) else (if 0 ≤ a2 then (if a2 ≤ (a1.size : Int) then (if 0 ≤ bt514.1 then (if bt514.1 ≤ (bt514.2.1.length : Int) then (if (a1.extract 0 (a2 : Int).toNat).size + (strOfNums (bt514.2.1.take (bt514.1 : Int).toNat)).size ≤ 9223372036854775807 then (some ((a1.extract 0 (a2 : Int).toNat) ++ (strOfNums (bt514.2.1.take (bt514.1 : Int).toNat)), bt514.2.1.drop (bt514.1 : Int).toNat, bt514.2.2)) else (none)) else (none)) else (none)) else (none)) else (none)))))
theorem q_reader_text.mono : ∀ a0 a1 a2 a3 k, LeO (q_reader_text.f k a0 a1 a2 a3) (q_reader_text.f (k + 1) a0 a1 a2 a3) := by
 intro a0 a1 a2 a3 k
 unfold q_reader_text.f
 repeat' first
  | (with_reducible exact q_reader_count.mono _ _ _)
  | (with_reducible exact LeO.refl _)
  | (with_reducible refine LeO.bind ?_ (fun _ => ?_))
set_option maxHeartbeats 8000000 in
set_option maxRecDepth 100000 in
theorem q_reader_text.calls (k : Nat) (g : Nat) (s0_0 : List Int) (s0_1 : Bool) (a1 : ByteArray) (a2 : Int) (r1 : ByteArray) (r2 : List Int) (r3 : Bool) (w0 w : World) (hI : IsS75 w0 w g s0_0 s0_1) (hB : Below w0.heap.size w0 w) (h : q_reader_text.f k s0_0 s0_1 a1 a2 = some (r1, r2, r3)) :
 Calls Try.prog 105 #[.pointer (some ⟨g, 0, none⟩), .string a1, .int .i64 a2] w fun e w' => e = .returned (.string r1) ∧ IsS75 w0 w' g r2 r3 ∧ Below w0.heap.size w0 w' ∧ KeepBut w w' g none := by
 have HI0 := Ak hI
 have HK := Ak (KeepBut.refl w g none)
 have HL := Ak hB.size
 clear hI
 have HW0 := Ak hB.size
 have HB := Ak hB
 have HBZ := Ak hB
 clear hB
 have H : ((q_reader_count.f k s0_0 s0_1).bind fun bt514 => (if bt514.2.2 = true then (some ((⟨#[]⟩ : ByteArray), bt514.2.1, true)) else (if a2 > (a1.size : Int) then (some ((⟨#[]⟩ : ByteArray), bt514.2.1, true)) else (if bt514.1 > (bt514.2.1.length : Int) then (some ((⟨#[]⟩ : ByteArray), bt514.2.1, true)) else (if 0 ≤ a2 then (if a2 ≤ (a1.size : Int) then (if 0 ≤ bt514.1 then (if bt514.1 ≤ (bt514.2.1.length : Int) then (if (a1.extract 0 (a2 : Int).toNat).size + (strOfNums (bt514.2.1.take (bt514.1 : Int).toNat)).size ≤ 9223372036854775807 then (some ((a1.extract 0 (a2 : Int).toNat) ++ (strOfNums (bt514.2.1.take (bt514.1 : Int).toNat)), bt514.2.1.drop (bt514.1 : Int).toNat, bt514.2.2)) else (none)) else (none)) else (none)) else (none)) else (none)))))) = some (r1, r2, r3) := h
 clear h
 replace H := Option.bind_eq_some_iff.mp H
 obtain ⟨⟨t514, t515, t516⟩, A40, H⟩ := H
 replace H : (if t516 = true then (some ((⟨#[]⟩ : ByteArray), t515, true)) else (if a2 > (a1.size : Int) then (some ((⟨#[]⟩ : ByteArray), t515, true)) else (if t514 > (t515.length : Int) then (some ((⟨#[]⟩ : ByteArray), t515, true)) else (if 0 ≤ a2 then (if a2 ≤ (a1.size : Int) then (if 0 ≤ t514 then (if t514 ≤ (t515.length : Int) then (if (a1.extract 0 (a2 : Int).toNat).size + (strOfNums (t515.take (t514 : Int).toNat)).size ≤ 9223372036854775807 then (some ((a1.extract 0 (a2 : Int).toNat) ++ (strOfNums (t515.take (t514 : Int).toNat)), t515.drop (t514 : Int).toNat, t516)) else (none)) else (none)) else (none)) else (none)) else (none))))) = some (r1, r2, r3) := H
 have A4 := Ak A40
 clear A40
 by_cases c5 : t516 = true
 ·subst c5
  replace H : (some ((⟨#[]⟩ : ByteArray), t515, true)) = some (r1, r2, r3) := by rw [if_pos rfl] at H; exact H
  simp only [Option.some.injEq, Prod.mk.injEq] at H
  obtain ⟨rfl, rfl, rfl⟩ := H
  go_enter Try.func105, Try.ntmps105
  go_wp2_with (first | (go_at_call 60; (with_reducible refine (q_reader_count.calls k g s0_0 s0_1 t514 t515 true w0 _ ?side1 ?side2 A4.out).mono ?_); (case side1 => exact HI0.out); (case side2 => exact HB.out); rintro e w6 ⟨rfl, hi, hb, hk⟩; have n0_ := Ak (KeepBut.trans (by exact HK.out) hk (.inl rfl)); have n1_ := Ak (hb); have n2_ := Ak (hi); clear HK HB HI0; have HK := n0_; have HB := n1_; have HI0 := n2_; clear n0_ n1_ n2_; (try clear hb); (try clear hk); (try clear hi); obtain ⟨ASz7_0, cSz7_0, HGz7, hgz7, HSz7_0⟩ := HI0.out; have hcz7_0 := cellS75_0 HGz7; have hcz7_1 := cellS75_1 HGz7; have hfz7_0 := blk_frozen HGz7 0; have hfz7_1 := blk_frozen HGz7 1; have HCSz7_0 := HSz7_0.1; replace HSz7_0 := HSz7_0.2; clear HGz7 hgz7))
  repeat (go_quiet (first | (go_at_call 60; (with_reducible refine (q_reader_count.calls k g s0_0 s0_1 t514 t515 true w0 _ ?side1 ?side2 A4.out).mono ?_); (case side1 => repeat (first | (with_reducible first | exact HI0.out | apply IsS75.alloc | apply IsS75.drewN | apply IsS75.drew | apply IsS75.set_1) | exact HI0.out)); (case side2 => repeat (first | (with_reducible first | exact HB.out | apply below_alloc | apply pw_below_drewN | apply below_drew1 | refine below_set ?_ (IsS75.ge HI0.out)) | exact HB.out)); rintro e w6 ⟨rfl, hi, hb, hk⟩; have n0_ := Ak (KeepBut.trans (by repeat (first | (with_reducible first | exact HK.out | apply KeepBut.set_ | apply keep_drewN | apply keep_drew | apply keep_alloc) | exact HK.out)) hk (.inl rfl)); have n1_ := Ak (hb); have n2_ := Ak (hi); clear HK HB HI0; have HK := n0_; have HB := n1_; have HI0 := n2_; clear n0_ n1_ n2_; obtain ⟨ASz7_0, cSz7_0, HGz7, hgz7, HSz7_0⟩ := HI0.out; have hcz7_0 := cellS75_0 HGz7; have hcz7_1 := cellS75_1 HGz7; have hfz7_0 := blk_frozen HGz7 0; have hfz7_1 := blk_frozen HGz7 1; have HCSz7_0 := HSz7_0.1; replace HSz7_0 := HSz7_0.2; clear HGz7 hgz7)); try go_wp2_with (first | (go_at_call 60; (with_reducible refine (q_reader_count.calls k g s0_0 s0_1 t514 t515 true w0 _ ?side1 ?side2 A4.out).mono ?_); (case side1 => repeat (first | (with_reducible first | exact HI0.out | apply IsS75.alloc | apply IsS75.drewN | apply IsS75.drew | apply IsS75.set_1) | exact HI0.out)); (case side2 => repeat (first | (with_reducible first | exact HB.out | apply below_alloc | apply pw_below_drewN | apply below_drew1 | refine below_set ?_ (IsS75.ge HI0.out)) | exact HB.out)); rintro e w6 ⟨rfl, hi, hb, hk⟩; have n0_ := Ak (KeepBut.trans (by repeat (first | (with_reducible first | exact HK.out | apply KeepBut.set_ | apply keep_drewN | apply keep_drew | apply keep_alloc) | exact HK.out)) hk (.inl rfl)); have n1_ := Ak (hb); have n2_ := Ak (hi); clear HK HB HI0; have HK := n0_; have HB := n1_; have HI0 := n2_; clear n0_ n1_ n2_; obtain ⟨ASz7_0, cSz7_0, HGz7, hgz7, HSz7_0⟩ := HI0.out; have hcz7_0 := cellS75_0 HGz7; have hcz7_1 := cellS75_1 HGz7; have hfz7_0 := blk_frozen HGz7 0; have hfz7_1 := blk_frozen HGz7 1; have HCSz7_0 := HSz7_0.1; replace HSz7_0 := HSz7_0.2; clear HGz7 hgz7)))
  go_ret
  exact ⟨by rfl, by repeat ((with_reducible first | exact HI0.out | apply IsS75.set_1)), by repeat ((with_reducible first | exact HB.out | refine below_set ?_ (IsS75.ge HI0.out))), by repeat ((with_reducible first | exact HK.out | apply KeepBut.set_ ))⟩
 ·replace c5 := Bool.eq_false_iff.mpr c5
  subst c5
  replace H : (if a2 > (a1.size : Int) then (some ((⟨#[]⟩ : ByteArray), t515, true)) else (if t514 > (t515.length : Int) then (some ((⟨#[]⟩ : ByteArray), t515, true)) else (if 0 ≤ a2 then (if a2 ≤ (a1.size : Int) then (if 0 ≤ t514 then (if t514 ≤ (t515.length : Int) then (if (a1.extract 0 (a2 : Int).toNat).size + (strOfNums (t515.take (t514 : Int).toNat)).size ≤ 9223372036854775807 then (some ((a1.extract 0 (a2 : Int).toNat) ++ (strOfNums (t515.take (t514 : Int).toNat)), t515.drop (t514 : Int).toNat, false)) else (none)) else (none)) else (none)) else (none)) else (none)))) = some (r1, r2, r3) := by rw [if_neg (show ¬ (false = true) by decide)] at H; exact H
  by_cases c8 : a2 > (a1.size : Int)
  ·rw [if_pos c8] at H
   have c8b0 : decide ((a1.size : Int) < a2) = true := decide_eq_true c8
   clear c8
   simp only [Option.some.injEq, Prod.mk.injEq] at H
   obtain ⟨rfl, rfl, rfl⟩ := H
   go_enter Try.func105, Try.ntmps105
   go_wp2_with (first | (go_at_call 60; (with_reducible refine (q_reader_count.calls k g s0_0 s0_1 t514 t515 false w0 _ ?side1 ?side2 A4.out).mono ?_); (case side1 => exact HI0.out); (case side2 => exact HB.out); rintro e w9 ⟨rfl, hi, hb, hk⟩; have n0_ := Ak (KeepBut.trans (by exact HK.out) hk (.inl rfl)); have n1_ := Ak (hb); have n2_ := Ak (hi); clear HK HB HI0; have HK := n0_; have HB := n1_; have HI0 := n2_; clear n0_ n1_ n2_; (try clear hb); (try clear hk); (try clear hi); obtain ⟨ASz10_0, cSz10_0, HGz10, hgz10, HSz10_0⟩ := HI0.out; have hcz10_0 := cellS75_0 HGz10; have hcz10_1 := cellS75_1 HGz10; have hfz10_0 := blk_frozen HGz10 0; have hfz10_1 := blk_frozen HGz10 1; have HCSz10_0 := HSz10_0.1; replace HSz10_0 := HSz10_0.2; clear HGz10 hgz10))
   repeat (go_quiet (first | (go_at_call 60; (with_reducible refine (q_reader_count.calls k g s0_0 s0_1 t514 t515 false w0 _ ?side1 ?side2 A4.out).mono ?_); (case side1 => repeat (first | (with_reducible first | exact HI0.out | apply IsS75.alloc | apply IsS75.drewN | apply IsS75.drew | apply IsS75.set_1) | exact HI0.out)); (case side2 => repeat (first | (with_reducible first | exact HB.out | apply below_alloc | apply pw_below_drewN | apply below_drew1 | refine below_set ?_ (IsS75.ge HI0.out)) | exact HB.out)); rintro e w9 ⟨rfl, hi, hb, hk⟩; have n0_ := Ak (KeepBut.trans (by repeat (first | (with_reducible first | exact HK.out | apply KeepBut.set_ | apply keep_drewN | apply keep_drew | apply keep_alloc) | exact HK.out)) hk (.inl rfl)); have n1_ := Ak (hb); have n2_ := Ak (hi); clear HK HB HI0; have HK := n0_; have HB := n1_; have HI0 := n2_; clear n0_ n1_ n2_; obtain ⟨ASz10_0, cSz10_0, HGz10, hgz10, HSz10_0⟩ := HI0.out; have hcz10_0 := cellS75_0 HGz10; have hcz10_1 := cellS75_1 HGz10; have hfz10_0 := blk_frozen HGz10 0; have hfz10_1 := blk_frozen HGz10 1; have HCSz10_0 := HSz10_0.1; replace HSz10_0 := HSz10_0.2; clear HGz10 hgz10)); try go_wp2_with (first | (go_at_call 60; (with_reducible refine (q_reader_count.calls k g s0_0 s0_1 t514 t515 false w0 _ ?side1 ?side2 A4.out).mono ?_); (case side1 => repeat (first | (with_reducible first | exact HI0.out | apply IsS75.alloc | apply IsS75.drewN | apply IsS75.drew | apply IsS75.set_1) | exact HI0.out)); (case side2 => repeat (first | (with_reducible first | exact HB.out | apply below_alloc | apply pw_below_drewN | apply below_drew1 | refine below_set ?_ (IsS75.ge HI0.out)) | exact HB.out)); rintro e w9 ⟨rfl, hi, hb, hk⟩; have n0_ := Ak (KeepBut.trans (by repeat (first | (with_reducible first | exact HK.out | apply KeepBut.set_ | apply keep_drewN | apply keep_drew | apply keep_alloc) | exact HK.out)) hk (.inl rfl)); have n1_ := Ak (hb); have n2_ := Ak (hi); clear HK HB HI0; have HK := n0_; have HB := n1_; have HI0 := n2_; clear n0_ n1_ n2_; obtain ⟨ASz10_0, cSz10_0, HGz10, hgz10, HSz10_0⟩ := HI0.out; have hcz10_0 := cellS75_0 HGz10; have hcz10_1 := cellS75_1 HGz10; have hfz10_0 := blk_frozen HGz10 0; have hfz10_1 := blk_frozen HGz10 1; have HCSz10_0 := HSz10_0.1; replace HSz10_0 := HSz10_0.2; clear HGz10 hgz10)))
   go_ret
   exact ⟨by rfl, by repeat ((with_reducible first | exact HI0.out | apply IsS75.set_1)), by repeat ((with_reducible first | exact HB.out | refine below_set ?_ (IsS75.ge HI0.out))), by repeat ((with_reducible first | exact HK.out | apply KeepBut.set_ ))⟩
  ·rw [if_neg c8] at H
   have c8b0 : decide ((a1.size : Int) < a2) = false := decide_eq_false c8
   clear c8
   by_cases c11 : t514 > (t515.length : Int)
   ·rw [if_pos c11] at H
    have c11b0 : decide ((t515.length : Int) < t514) = true := decide_eq_true c11
    clear c11
    simp only [Option.some.injEq, Prod.mk.injEq] at H
    obtain ⟨rfl, rfl, rfl⟩ := H
    go_enter Try.func105, Try.ntmps105
    go_wp2_with (first | (go_at_call 60; (with_reducible refine (q_reader_count.calls k g s0_0 s0_1 t514 t515 false w0 _ ?side1 ?side2 A4.out).mono ?_); (case side1 => exact HI0.out); (case side2 => exact HB.out); rintro e w12 ⟨rfl, hi, hb, hk⟩; have n0_ := Ak (KeepBut.trans (by exact HK.out) hk (.inl rfl)); have n1_ := Ak (hb); have n2_ := Ak (hi); clear HK HB HI0; have HK := n0_; have HB := n1_; have HI0 := n2_; clear n0_ n1_ n2_; (try clear hb); (try clear hk); (try clear hi); obtain ⟨ASz13_0, cSz13_0, HGz13, hgz13, HSz13_0⟩ := HI0.out; have hcz13_0 := cellS75_0 HGz13; have hcz13_1 := cellS75_1 HGz13; have hfz13_0 := blk_frozen HGz13 0; have hfz13_1 := blk_frozen HGz13 1; have HCSz13_0 := HSz13_0.1; replace HSz13_0 := HSz13_0.2; clear HGz13 hgz13))
    repeat (go_quiet (first | (go_at_call 60; (with_reducible refine (q_reader_count.calls k g s0_0 s0_1 t514 t515 false w0 _ ?side1 ?side2 A4.out).mono ?_); (case side1 => repeat (first | (with_reducible first | exact HI0.out | apply IsS75.alloc | apply IsS75.drewN | apply IsS75.drew | apply IsS75.set_1) | exact HI0.out)); (case side2 => repeat (first | (with_reducible first | exact HB.out | apply below_alloc | apply pw_below_drewN | apply below_drew1 | refine below_set ?_ (IsS75.ge HI0.out)) | exact HB.out)); rintro e w12 ⟨rfl, hi, hb, hk⟩; have n0_ := Ak (KeepBut.trans (by repeat (first | (with_reducible first | exact HK.out | apply KeepBut.set_ | apply keep_drewN | apply keep_drew | apply keep_alloc) | exact HK.out)) hk (.inl rfl)); have n1_ := Ak (hb); have n2_ := Ak (hi); clear HK HB HI0; have HK := n0_; have HB := n1_; have HI0 := n2_; clear n0_ n1_ n2_; obtain ⟨ASz13_0, cSz13_0, HGz13, hgz13, HSz13_0⟩ := HI0.out; have hcz13_0 := cellS75_0 HGz13; have hcz13_1 := cellS75_1 HGz13; have hfz13_0 := blk_frozen HGz13 0; have hfz13_1 := blk_frozen HGz13 1; have HCSz13_0 := HSz13_0.1; replace HSz13_0 := HSz13_0.2; clear HGz13 hgz13)); try go_wp2_with (first | (go_at_call 60; (with_reducible refine (q_reader_count.calls k g s0_0 s0_1 t514 t515 false w0 _ ?side1 ?side2 A4.out).mono ?_); (case side1 => repeat (first | (with_reducible first | exact HI0.out | apply IsS75.alloc | apply IsS75.drewN | apply IsS75.drew | apply IsS75.set_1) | exact HI0.out)); (case side2 => repeat (first | (with_reducible first | exact HB.out | apply below_alloc | apply pw_below_drewN | apply below_drew1 | refine below_set ?_ (IsS75.ge HI0.out)) | exact HB.out)); rintro e w12 ⟨rfl, hi, hb, hk⟩; have n0_ := Ak (KeepBut.trans (by repeat (first | (with_reducible first | exact HK.out | apply KeepBut.set_ | apply keep_drewN | apply keep_drew | apply keep_alloc) | exact HK.out)) hk (.inl rfl)); have n1_ := Ak (hb); have n2_ := Ak (hi); clear HK HB HI0; have HK := n0_; have HB := n1_; have HI0 := n2_; clear n0_ n1_ n2_; obtain ⟨ASz13_0, cSz13_0, HGz13, hgz13, HSz13_0⟩ := HI0.out; have hcz13_0 := cellS75_0 HGz13; have hcz13_1 := cellS75_1 HGz13; have hfz13_0 := blk_frozen HGz13 0; have hfz13_1 := blk_frozen HGz13 1; have HCSz13_0 := HSz13_0.1; replace HSz13_0 := HSz13_0.2; clear HGz13 hgz13)))
    go_ret
    exact ⟨by rfl, by repeat ((with_reducible first | exact HI0.out | apply IsS75.set_1)), by repeat ((with_reducible first | exact HB.out | refine below_set ?_ (IsS75.ge HI0.out))), by repeat ((with_reducible first | exact HK.out | apply KeepBut.set_ ))⟩
   ·rw [if_neg c11] at H
    have c11b0 : decide ((t515.length : Int) < t514) = false := decide_eq_false c11
    clear c11
    by_cases c14 : 0 ≤ a2
    ·rw [if_pos c14] at H
     have c14b0 := eq_true c14
     have c14b1 : decide (0 ≤ a2) = true := decide_eq_true c14
     clear c14
     by_cases c15 : a2 ≤ (a1.size : Int)
     ·rw [if_pos c15] at H
      have c15b0 := eq_true c15
      have c15b1 : decide (a2 ≤ (a1.size : Int)) = true := decide_eq_true c15
      clear c15
      by_cases c16 : 0 ≤ t514
      ·rw [if_pos c16] at H
       have c16b0 := eq_true c16
       have c16b1 : decide (0 ≤ t514) = true := decide_eq_true c16
       clear c16
       by_cases c17 : t514 ≤ (t515.length : Int)
       ·rw [if_pos c17] at H
        have c17b0 := eq_true c17
        have c17b1 : decide (t514 ≤ (t515.length : Int)) = true := decide_eq_true c17
        clear c17
        by_cases c18 : (a1.extract 0 (a2 : Int).toNat).size + (strOfNums (t515.take (t514 : Int).toNat)).size ≤ 9223372036854775807
        ·rw [if_pos c18] at H
         have c18b0 := eq_true c18
         have c18b1 : decide ((a1.extract 0 (a2 : Int).toNat).size + (strOfNums (t515.take (t514 : Int).toNat)).size ≤ 9223372036854775807) = true := decide_eq_true c18
         try have c18b2 : (9223372036854775807 < (a1.extract 0 (a2 : Int).toNat).size + (strOfNums (t515.take (t514 : Int).toNat)).size) = False := eq_false (Nat.not_lt.2 c18)
         try have c18b3 : (9223372036854775807 < (a2 : Int).toNat + (strOfNums (t515.take (t514 : Int).toNat)).size) = False := (by have e_ : (a1.extract 0 (a2 : Int).toNat).size = (a2 : Int).toNat := (by rw [ByteArray.size_extract]; have h_ := of_decide_eq_true (show decide (a2 ≤ (a1.size : Int)) = true by assumption); omega); have f_ : (strOfNums (t515.take (t514 : Int).toNat)).size = (t515.take (t514 : Int).toNat).length := strOfNums_size _; have g_ : (t515.take (t514 : Int).toNat).length = (t514 : Int).toNat := (by rw [List.length_take]; have h_ := of_decide_eq_true (show decide (t514 ≤ (t515.length : Int)) = true by assumption); omega); rw [← e_]; exact c18b2)
         try have c18b4 : (9223372036854775807 < (a2 : Int).toNat + (t515.take (t514 : Int).toNat).length) = False := (by have e_ : (a1.extract 0 (a2 : Int).toNat).size = (a2 : Int).toNat := (by rw [ByteArray.size_extract]; have h_ := of_decide_eq_true (show decide (a2 ≤ (a1.size : Int)) = true by assumption); omega); have f_ : (strOfNums (t515.take (t514 : Int).toNat)).size = (t515.take (t514 : Int).toNat).length := strOfNums_size _; have g_ : (t515.take (t514 : Int).toNat).length = (t514 : Int).toNat := (by rw [List.length_take]; have h_ := of_decide_eq_true (show decide (t514 ≤ (t515.length : Int)) = true by assumption); omega); rw [← e_, ← f_]; exact c18b2)
         try have c18b6 : (9223372036854775807 < (a2 : Int).toNat + (t514 : Int).toNat) = False := (by have e_ : (a1.extract 0 (a2 : Int).toNat).size = (a2 : Int).toNat := (by rw [ByteArray.size_extract]; have h_ := of_decide_eq_true (show decide (a2 ≤ (a1.size : Int)) = true by assumption); omega); have f_ : (strOfNums (t515.take (t514 : Int).toNat)).size = (t515.take (t514 : Int).toNat).length := strOfNums_size _; have g_ : (t515.take (t514 : Int).toNat).length = (t514 : Int).toNat := (by rw [List.length_take]; have h_ := of_decide_eq_true (show decide (t514 ≤ (t515.length : Int)) = true by assumption); omega); have k_ := c18b2; rw [e_, f_, g_] at k_; exact k_)
         have c19b0 := eq_true (of_decide_eq_true (by (with_reducible assumption)) : 0 ≤ t514)
         have c20b0 := eq_true (of_decide_eq_true (by (with_reducible assumption)) : t514 ≤ (t515.length : Int))
         simp only [Option.some.injEq, Prod.mk.injEq] at H
         obtain ⟨rfl, rfl, rfl⟩ := H
         go_enter Try.func105, Try.ntmps105
         go_wp2_with (first | (go_at_call 60; (with_reducible refine (q_reader_count.calls k g s0_0 s0_1 t514 t515 false w0 _ ?side1 ?side2 A4.out).mono ?_); (case side1 => exact HI0.out); (case side2 => exact HB.out); rintro e w21 ⟨rfl, hi, hb, hk⟩; have n0_ := Ak (KeepBut.trans (by exact HK.out) hk (.inl rfl)); have n1_ := Ak (hb); have n2_ := Ak (hi); clear HK HB HI0; have HK := n0_; have HB := n1_; have HI0 := n2_; clear n0_ n1_ n2_; (try clear hb); (try clear hk); (try clear hi); obtain ⟨ASz22_0, cSz22_0, HGz22, hgz22, HSz22_0⟩ := HI0.out; have hcz22_0 := cellS75_0 HGz22; have hcz22_1 := cellS75_1 HGz22; have hfz22_0 := blk_frozen HGz22 0; have hfz22_1 := blk_frozen HGz22 1; have HCSz22_0 := HSz22_0.1; replace HSz22_0 := HSz22_0.2; clear HGz22 hgz22; have HRs23 := Ak (Kd.C_below HSz22_0 HBZ.out); have HCs23 := Ak HCSz22_0; have hfs23 : ∀ ad : Addr, ASz22_0 = some ad → 0 < t515.length → ad.block ≠ g := Kd.far_C 0 HSz22_0 (IsS75.ge HI0.out); obtain ⟨i023, hi023, _, hsz23, _⟩ := info_parts info5; obtain ⟨hcut23, hA23, hC23⟩ := print_take_of (P := Try.prog) (Value.int .u8) 0 27 5 .i64 Try.underlying27 hi023 hsz23 ASz22_0 cSz22_0 t515 t514 (of_decide_eq_true (by (with_reducible assumption))) (of_decide_eq_true (by (with_reducible assumption))) HCs23.out; have HR517 := Ak (Kd.C_of_reads (h1 := fun _ => rfl) (hA23 _ (Kd.reads_of_C HRs23.out))); have HC517 := Ak hC23; have hf517 : ∀ ad : Addr, ASz22_0 = some ad → 0 < (t515.take (t514 : Int).toNat).length → ad.block ≠ g := fun ad he h_ => (by cases he; exact Kd.foot_ne (fun W_ hk_ => Kd.C_of_reads (h1 := fun _ => rfl) (hA23 _ (Kd.reads_of_C (Kd.C_foot_ne (fun h => h) HRs23.out hfs23 W_ hk_)))) h_ (by decide)); clear hA23 hC23 hi023 hsz23; have hcv24 := Kd.C_string (P := Try.prog) (A := ASz22_0) (c := cSz22_0) Try.underlying27 Try.underlying5 Try.underlying9 (Kd.C_keep 0 HR517.out (by exact HK.out) hf517); (try rw [show (t515.take (t514 : Int).toNat).length = (t514 : Int).toNat by have h1_ : (0 : Int) ≤ t514 := (of_decide_eq_true (by (with_reducible assumption))); have h2_ : t514 ≤ (t515.length : Int) := (of_decide_eq_true (by (with_reducible assumption))); rw [List.length_take]; omega] at hcv24); have hcv24q := fun (n_ : Nat) => Kd.C_string (P := Try.prog) (A := ASz22_0) (c := cSz22_0) Try.underlying27 Try.underlying5 Try.underlying9 (Kd.C_drewN (Kd.C_keep 0 HR517.out (by exact HK.out) hf517) n_); (try simp only [show (t515.take (t514 : Int).toNat).length = (t514 : Int).toNat from by have h1_ : (0 : Int) ≤ t514 := (of_decide_eq_true (by (with_reducible assumption))); have h2_ : t514 ≤ (t515.length : Int) := (of_decide_eq_true (by (with_reducible assumption))); rw [List.length_take]; omega] at hcv24q); have HRs25 := Ak (Kd.C_below HSz22_0 HBZ.out); have HCs25 := Ak HCSz22_0; have hfs25 : ∀ ad : Addr, ASz22_0 = some ad → 0 < t515.length → ad.block ≠ g := Kd.far_C 0 HSz22_0 (IsS75.ge HI0.out); obtain ⟨i025, hi025, _, hsz25, _⟩ := info_parts info5; obtain ⟨A25, hcut25, hA25, hC25⟩ := print_drop_of (P := Try.prog) (Value.int .u8) 0 27 5 .i64 Try.underlying27 hi025 hsz25 ASz22_0 cSz22_0 t515 t514 (of_decide_eq_true (by (with_reducible assumption))) (of_decide_eq_true (by (with_reducible assumption))) HCs25.out; have HR518 := Ak (Kd.C_of_reads (h1 := fun _ => rfl) (hA25 _ (Kd.reads_of_C HRs25.out))); have HC518 := Ak hC25; have hf518 : ∀ ad : Addr, A25 = some ad → 0 < (t515.drop (t514 : Int).toNat).length → ad.block ≠ g := fun ad he h_ => (by cases he; exact Kd.foot_ne (fun W_ hk_ => Kd.C_of_reads (h1 := fun _ => rfl) (hA25 _ (Kd.reads_of_C (Kd.C_foot_ne (fun h => h) HRs25.out hfs25 W_ hk_)))) h_ (by decide)); clear hi025 hsz25))
         repeat (go_quiet (first | (go_at_call 60; (with_reducible refine (q_reader_count.calls k g s0_0 s0_1 t514 t515 false w0 _ ?side1 ?side2 A4.out).mono ?_); (case side1 => repeat (first | (with_reducible first | exact HI0.out | apply IsS75.alloc | apply IsS75.drewN | apply IsS75.drew | apply IsS75.set_1) | exact HI0.out)); (case side2 => repeat (first | (with_reducible first | exact HB.out | apply below_alloc | apply pw_below_drewN | apply below_drew1 | refine below_set ?_ (IsS75.ge HI0.out)) | exact HB.out)); rintro e w21 ⟨rfl, hi, hb, hk⟩; have n0_ := Ak (KeepBut.trans (by repeat (first | (with_reducible first | exact HK.out | apply KeepBut.set_ | apply keep_drewN | apply keep_drew | apply keep_alloc) | exact HK.out)) hk (.inl rfl)); have n1_ := Ak (hb); have n2_ := Ak (hi); clear HK HB HI0; have HK := n0_; have HB := n1_; have HI0 := n2_; clear n0_ n1_ n2_; obtain ⟨ASz22_0, cSz22_0, HGz22, hgz22, HSz22_0⟩ := HI0.out; have hcz22_0 := cellS75_0 HGz22; have hcz22_1 := cellS75_1 HGz22; have hfz22_0 := blk_frozen HGz22 0; have hfz22_1 := blk_frozen HGz22 1; have HCSz22_0 := HSz22_0.1; replace HSz22_0 := HSz22_0.2; clear HGz22 hgz22; have HRs23 := Ak (Kd.C_below HSz22_0 HBZ.out); have HCs23 := Ak HCSz22_0; have hfs23 : ∀ ad : Addr, ASz22_0 = some ad → 0 < t515.length → ad.block ≠ g := Kd.far_C 0 HSz22_0 (IsS75.ge HI0.out); obtain ⟨i023, hi023, _, hsz23, _⟩ := info_parts info5; obtain ⟨hcut23, hA23, hC23⟩ := print_take_of (P := Try.prog) (Value.int .u8) 0 27 5 .i64 Try.underlying27 hi023 hsz23 ASz22_0 cSz22_0 t515 t514 (of_decide_eq_true (by first | (with_reducible assumption) | assumption)) (of_decide_eq_true (by first | (with_reducible assumption) | assumption)) HCs23.out; have HR517 := Ak (Kd.C_of_reads (h1 := fun _ => rfl) (hA23 _ (Kd.reads_of_C HRs23.out))); have HC517 := Ak hC23; have hf517 : ∀ ad : Addr, ASz22_0 = some ad → 0 < (t515.take (t514 : Int).toNat).length → ad.block ≠ g := fun ad he h_ => (by cases he; exact Kd.foot_ne (fun W_ hk_ => Kd.C_of_reads (h1 := fun _ => rfl) (hA23 _ (Kd.reads_of_C (Kd.C_foot_ne (fun h => h) HRs23.out hfs23 W_ hk_)))) h_ (by decide)); clear hA23 hC23 hi023 hsz23; have hcv24 := Kd.C_string (P := Try.prog) (A := ASz22_0) (c := cSz22_0) Try.underlying27 Try.underlying5 Try.underlying9 (Kd.C_keep 0 HR517.out (by repeat (first | (with_reducible first | exact HK.out | apply KeepBut.set_ | apply keep_drewN | apply keep_drew | apply keep_alloc) | exact HK.out)) hf517); have hcv24q := fun (n_ : Nat) => Kd.C_string (P := Try.prog) (A := ASz22_0) (c := cSz22_0) Try.underlying27 Try.underlying5 Try.underlying9 (Kd.C_drewN (Kd.C_keep 0 HR517.out (by repeat (first | (with_reducible first | exact HK.out | apply KeepBut.set_ | apply keep_drewN | apply keep_drew | apply keep_alloc) | exact HK.out)) hf517) n_); have HRs25 := Ak (Kd.C_below HSz22_0 HBZ.out); have HCs25 := Ak HCSz22_0; have hfs25 : ∀ ad : Addr, ASz22_0 = some ad → 0 < t515.length → ad.block ≠ g := Kd.far_C 0 HSz22_0 (IsS75.ge HI0.out); obtain ⟨i025, hi025, _, hsz25, _⟩ := info_parts info5; obtain ⟨A25, hcut25, hA25, hC25⟩ := print_drop_of (P := Try.prog) (Value.int .u8) 0 27 5 .i64 Try.underlying27 hi025 hsz25 ASz22_0 cSz22_0 t515 t514 (of_decide_eq_true (by first | (with_reducible assumption) | assumption)) (of_decide_eq_true (by first | (with_reducible assumption) | assumption)) HCs25.out; have HR518 := Ak (Kd.C_of_reads (h1 := fun _ => rfl) (hA25 _ (Kd.reads_of_C HRs25.out))); have HC518 := Ak hC25; have hf518 : ∀ ad : Addr, A25 = some ad → 0 < (t515.drop (t514 : Int).toNat).length → ad.block ≠ g := fun ad he h_ => (by cases he; exact Kd.foot_ne (fun W_ hk_ => Kd.C_of_reads (h1 := fun _ => rfl) (hA25 _ (Kd.reads_of_C (Kd.C_foot_ne (fun h => h) HRs25.out hfs25 W_ hk_)))) h_ (by decide)); clear hi025 hsz25)); try go_wp2_with (first | (go_at_call 60; (with_reducible refine (q_reader_count.calls k g s0_0 s0_1 t514 t515 false w0 _ ?side1 ?side2 A4.out).mono ?_); (case side1 => repeat (first | (with_reducible first | exact HI0.out | apply IsS75.alloc | apply IsS75.drewN | apply IsS75.drew | apply IsS75.set_1) | exact HI0.out)); (case side2 => repeat (first | (with_reducible first | exact HB.out | apply below_alloc | apply pw_below_drewN | apply below_drew1 | refine below_set ?_ (IsS75.ge HI0.out)) | exact HB.out)); rintro e w21 ⟨rfl, hi, hb, hk⟩; have n0_ := Ak (KeepBut.trans (by repeat (first | (with_reducible first | exact HK.out | apply KeepBut.set_ | apply keep_drewN | apply keep_drew | apply keep_alloc) | exact HK.out)) hk (.inl rfl)); have n1_ := Ak (hb); have n2_ := Ak (hi); clear HK HB HI0; have HK := n0_; have HB := n1_; have HI0 := n2_; clear n0_ n1_ n2_; obtain ⟨ASz22_0, cSz22_0, HGz22, hgz22, HSz22_0⟩ := HI0.out; have hcz22_0 := cellS75_0 HGz22; have hcz22_1 := cellS75_1 HGz22; have hfz22_0 := blk_frozen HGz22 0; have hfz22_1 := blk_frozen HGz22 1; have HCSz22_0 := HSz22_0.1; replace HSz22_0 := HSz22_0.2; clear HGz22 hgz22; have HRs23 := Ak (Kd.C_below HSz22_0 HBZ.out); have HCs23 := Ak HCSz22_0; have hfs23 : ∀ ad : Addr, ASz22_0 = some ad → 0 < t515.length → ad.block ≠ g := Kd.far_C 0 HSz22_0 (IsS75.ge HI0.out); obtain ⟨i023, hi023, _, hsz23, _⟩ := info_parts info5; obtain ⟨hcut23, hA23, hC23⟩ := print_take_of (P := Try.prog) (Value.int .u8) 0 27 5 .i64 Try.underlying27 hi023 hsz23 ASz22_0 cSz22_0 t515 t514 (of_decide_eq_true (by first | (with_reducible assumption) | assumption)) (of_decide_eq_true (by first | (with_reducible assumption) | assumption)) HCs23.out; have HR517 := Ak (Kd.C_of_reads (h1 := fun _ => rfl) (hA23 _ (Kd.reads_of_C HRs23.out))); have HC517 := Ak hC23; have hf517 : ∀ ad : Addr, ASz22_0 = some ad → 0 < (t515.take (t514 : Int).toNat).length → ad.block ≠ g := fun ad he h_ => (by cases he; exact Kd.foot_ne (fun W_ hk_ => Kd.C_of_reads (h1 := fun _ => rfl) (hA23 _ (Kd.reads_of_C (Kd.C_foot_ne (fun h => h) HRs23.out hfs23 W_ hk_)))) h_ (by decide)); clear hA23 hC23 hi023 hsz23; have hcv24 := Kd.C_string (P := Try.prog) (A := ASz22_0) (c := cSz22_0) Try.underlying27 Try.underlying5 Try.underlying9 (Kd.C_keep 0 HR517.out (by repeat (first | (with_reducible first | exact HK.out | apply KeepBut.set_ | apply keep_drewN | apply keep_drew | apply keep_alloc) | exact HK.out)) hf517); have hcv24q := fun (n_ : Nat) => Kd.C_string (P := Try.prog) (A := ASz22_0) (c := cSz22_0) Try.underlying27 Try.underlying5 Try.underlying9 (Kd.C_drewN (Kd.C_keep 0 HR517.out (by repeat (first | (with_reducible first | exact HK.out | apply KeepBut.set_ | apply keep_drewN | apply keep_drew | apply keep_alloc) | exact HK.out)) hf517) n_); have HRs25 := Ak (Kd.C_below HSz22_0 HBZ.out); have HCs25 := Ak HCSz22_0; have hfs25 : ∀ ad : Addr, ASz22_0 = some ad → 0 < t515.length → ad.block ≠ g := Kd.far_C 0 HSz22_0 (IsS75.ge HI0.out); obtain ⟨i025, hi025, _, hsz25, _⟩ := info_parts info5; obtain ⟨A25, hcut25, hA25, hC25⟩ := print_drop_of (P := Try.prog) (Value.int .u8) 0 27 5 .i64 Try.underlying27 hi025 hsz25 ASz22_0 cSz22_0 t515 t514 (of_decide_eq_true (by first | (with_reducible assumption) | assumption)) (of_decide_eq_true (by first | (with_reducible assumption) | assumption)) HCs25.out; have HR518 := Ak (Kd.C_of_reads (h1 := fun _ => rfl) (hA25 _ (Kd.reads_of_C HRs25.out))); have HC518 := Ak hC25; have hf518 : ∀ ad : Addr, A25 = some ad → 0 < (t515.drop (t514 : Int).toNat).length → ad.block ≠ g := fun ad he h_ => (by cases he; exact Kd.foot_ne (fun W_ hk_ => Kd.C_of_reads (h1 := fun _ => rfl) (hA25 _ (Kd.reads_of_C (Kd.C_foot_ne (fun h => h) HRs25.out hfs25 W_ hk_)))) h_ (by decide)); clear hi025 hsz25)))
         go_ret
         exact ⟨by rfl, by repeat (exact IsS75.setw_0 (by repeat ((with_reducible first | exact HI0.out | apply IsS75.drewN ))) (by simp) ⟨hC25, Kd.C_of_reads (h1 := fun _ => rfl) (hA25 _ (Kd.reads_of_C HSz22_0))⟩), by repeat ((with_reducible first | exact HB.out | apply pw_below_drewN | refine below_set ?_ (IsS75.ge HI0.out))), by repeat ((with_reducible first | exact HK.out | apply KeepBut.set_ | apply keep_drewN ))⟩
        ·rw [if_neg c18] at H
         exact absurd H (by simp)
       ·rw [if_neg c17] at H
        exact absurd H (by simp)
      ·rw [if_neg c16] at H
       exact absurd H (by simp)
     ·rw [if_neg c15] at H
      exact absurd H (by simp)
    ·rw [if_neg c14] at H
     exact absurd H (by simp)
mutual
def q_reader_texts.l0 : Nat → Int → List ByteArray → List Int → Bool → Option (List ByteArray × List Int × Bool)
 | 0, _, _, _, _ => none
 | k + 1, x2, x7, x1000, x1001 => if (x7.length : Int) < x2 then (if x1001 = true then (some (x7, x1000, x1001)) else ((q_reader_text.f k x1000 x1001 (⟨#[]⟩ : ByteArray) 0).bind fun bt519 => (if x7.length < 8796093022208 then (q_reader_texts.l0 k x2 (x7 ++ [bt519.1]) bt519.2.1 bt519.2.2) else (none)))) else (some (x7, x1000, x1001))
def q_reader_texts.j1 : Nat → Int → List ByteArray → Int → Bool → List Int → Bool → Option (List ByteArray × List Int × Bool)
 | 0, _, _, _, _, _, _ => none
 | k + 1, x2, x7, x8, x51, x1000, x1001 => if x51 = true then (some (([] : List ByteArray), x1000, true)) else (q_reader_texts.l1 k x2 x7 x8 ([] : List ByteArray) (⟨#[]⟩ : ByteArray) x1000 x1001)
def q_reader_texts.l1 : Nat → Int → List ByteArray → Int → List ByteArray → ByteArray → List Int → Bool → Option (List ByteArray × List Int × Bool)
 | 0, _, _, _, _, _, _, _ => none
 | k + 1, x2, x7, x8, x9, x10, x1000, x1001 => if (x9.length : Int) < x8 then (q_reader_texts.j3 k x2 x7 x8 x9 x10 (!x1001) x1000 x1001) else (q_reader_texts.j3 k x2 x7 x8 x9 x10 false x1000 x1001)
def q_reader_texts.j3 : Nat → Int → List ByteArray → Int → List ByteArray → ByteArray → Bool → List Int → Bool → Option (List ByteArray × List Int × Bool)
 | 0, _, _, _, _, _, _, _, _ => none
 | k + 1, x2, x7, x8, x9, x10, x65, x1000, x1001 => if x65 = true then ((q_reader_count.f k x1000 x1001).bind fun bt528 => ((q_reader_text.f k bt528.2.1 bt528.2.2 x10 bt528.1).bind fun bt531 => (if x9.length < 8796093022208 then (q_reader_texts.l1 k x2 x7 x8 (x9 ++ [bt531.1]) bt531.1 bt531.2.1 bt531.2.2) else (none)))) else (if x1001 = true then (some (([] : List ByteArray), x1000, x1001)) else ((q_width.f (wrap64 (x8 - 1))).bind fun t537 => ((q_reader_unpacked.f k x1000 x1001 x2 t537).bind fun bt538 => (q_reader_texts.l2 k x7 x9 bt538.1 (bt538.1.length : Int) 0 bt538.2.1 bt538.2.2))))
def q_reader_texts.l2 : Nat → List ByteArray → List ByteArray → List Int → Int → Int → List Int → Bool → Option (List ByteArray × List Int × Bool)
 | 0, _, _, _, _, _, _, _ => none
 | k + 1, x7, x9, x85, x86, x87, x1000, x1001 => if x87 < x86 then (if 0 ≤ x87 then (if x87 < (x85.length : Int) then (if (rd x85 x87) ≥ (x9.length : Int) then (some (([] : List ByteArray), x1000, true)) else (if 0 ≤ (rd x85 x87) then (if (rd x85 x87) < (x9.length : Int) then (if x7.length < 8796093022208 then (q_reader_texts.l2 k (x7 ++ [rdOf ByteArray.empty x9 (rd x85 x87)]) x9 x85 x86 (wrap64 (x87 + 1)) x1000 x1001) else (none)) else (none)) else (none))) else (none)) else (none)) else (some (x7, x1000, x1001))
end
def q_reader_texts.f (k : Nat) (s0_0 : List Int) (s0_1 : Bool) (a1 : Int) (a2 : Int) : Option (List ByteArray × List Int × Bool) := if a1 = 1 then (q_reader_texts.l0 k a2 ([] : List ByteArray) s0_0 s0_1) else ((q_reader_count.f k s0_0 s0_1).bind fun bt525 => (if bt525.2.2 = true then (q_reader_texts.j1 k a2 ([] : List ByteArray) bt525.1 true bt525.2.1 bt525.2.2) else (if bt525.1 < 1 then (q_reader_texts.j1 k a2 ([] : List ByteArray) bt525.1 true bt525.2.1 bt525.2.2) else (if bt525.1 > a2 then (q_reader_texts.j1 k a2 ([] : List ByteArray) bt525.1 true bt525.2.1 bt525.2.2) else (q_reader_texts.j1 k a2 ([] : List ByteArray) bt525.1 (a1 != 3) bt525.2.1 bt525.2.2)))))
theorem q_reader_texts.mono_l : ∀ k, (∀ y0 y1 y2 y3, LeO (q_reader_texts.l0 k y0 y1 y2 y3) (q_reader_texts.l0 (k + 1) y0 y1 y2 y3)) ∧ (∀ y0 y1 y2 y3 y4 y5, LeO (q_reader_texts.j1 k y0 y1 y2 y3 y4 y5) (q_reader_texts.j1 (k + 1) y0 y1 y2 y3 y4 y5)) ∧ (∀ y0 y1 y2 y3 y4 y5 y6, LeO (q_reader_texts.l1 k y0 y1 y2 y3 y4 y5 y6) (q_reader_texts.l1 (k + 1) y0 y1 y2 y3 y4 y5 y6)) ∧ (∀ y0 y1 y2 y3 y4 y5 y6 y7, LeO (q_reader_texts.j3 k y0 y1 y2 y3 y4 y5 y6 y7) (q_reader_texts.j3 (k + 1) y0 y1 y2 y3 y4 y5 y6 y7)) ∧ (∀ y0 y1 y2 y3 y4 y5 y6, LeO (q_reader_texts.l2 k y0 y1 y2 y3 y4 y5 y6) (q_reader_texts.l2 (k + 1) y0 y1 y2 y3 y4 y5 y6))
 | 0 => ⟨fun _ _ _ _ r h => by simp [q_reader_texts.l0] at h, fun _ _ _ _ _ _ r h => by simp [q_reader_texts.j1] at h, fun _ _ _ _ _ _ _ r h => by simp [q_reader_texts.l1] at h, fun _ _ _ _ _ _ _ _ r h => by simp [q_reader_texts.j3] at h, fun _ _ _ _ _ _ _ r h => by simp [q_reader_texts.l2] at h⟩
 | k + 1 => by
  obtain ⟨ih0, ih1, ih2, ih3, ih4⟩ := q_reader_texts.mono_l k
  refine ⟨?_, ?_, ?_, ?_, ?_⟩ <;> intros
  all_goals (first | unfold q_reader_texts.l0 | unfold q_reader_texts.j1 | unfold q_reader_texts.l1 | unfold q_reader_texts.j3 | unfold q_reader_texts.l2)
  all_goals
   repeat' first
   | (with_reducible exact ih0 _ _ _ _)
   | (with_reducible exact ih2 _ _ _ _ _ _ _)
   | (with_reducible exact ih3 _ _ _ _ _ _ _ _)
   | (with_reducible exact ih4 _ _ _ _ _ _ _)
   | (with_reducible exact q_reader_count.mono _ _ _)
   | (with_reducible exact q_reader_text.mono _ _ _ _ _)
   | (with_reducible exact q_reader_unpacked.mono _ _ _ _ _)
   | (with_reducible exact LeO.refl _)
   | (with_reducible refine LeO.ite ?_ ?_)
   | (with_reducible refine LeO.bind ?_ (fun _ => ?_))
theorem q_reader_texts.mono : ∀ a0 a1 a2 a3 k, LeO (q_reader_texts.f k a0 a1 a2 a3) (q_reader_texts.f (k + 1) a0 a1 a2 a3) := by
 intro a0 a1 a2 a3 k
 obtain ⟨ih0, ih1, ih2, ih3, ih4⟩ := q_reader_texts.mono_l k
 unfold q_reader_texts.f
 repeat' first
  | (with_reducible exact ih0 _ _ _ _)
  | (with_reducible exact ih1 _ _ _ _ _ _)
  | (with_reducible exact q_reader_count.mono _ _ _)
  | (with_reducible refine LeO.ite ?_ ?_)
  | (with_reducible refine LeO.bind ?_ (fun _ => ?_))
set_option maxHeartbeats 8000000 in
set_option maxRecDepth 100000 in
theorem q_reader_texts.calls (k : Nat) (g : Nat) (s0_0 : List Int) (s0_1 : Bool) (a1 : Int) (a2 : Int) (r1 : List ByteArray) (r2 : List Int) (r3 : Bool) (w0 w : World) (hI : IsS75 w0 w g s0_0 s0_1) (hB : Below w0.heap.size w0 w) (h : q_reader_texts.f k s0_0 s0_1 a1 a2 = some (r1, r2, r3)) :
 Calls Try.prog 73 #[.pointer (some ⟨g, 0, none⟩), .int .i64 a1, .int .i64 a2] w fun e w' => ∃ v0_ : Value, e = .returned (v0_) ∧ Kd.R Kd.string 9 w' w.heap.size (fun _ => True) v0_ r1 ∧ IsS75 w0 w' g r2 r3 ∧ Below w0.heap.size w0 w' ∧ KeepBut w w' g none := by
 have HI0 := Ak hI
 have HK := Ak (KeepBut.refl w g none)
 have HL := Ak hB.size
 clear hI
 have HW0 := Ak hB.size
 have HB := Ak hB
 have HBZ := Ak hB
 clear hB
 have H : (if a1 = 1 then (q_reader_texts.l0 k a2 ([] : List ByteArray) s0_0 s0_1) else ((q_reader_count.f k s0_0 s0_1).bind fun bt525 => (if bt525.2.2 = true then (q_reader_texts.j1 k a2 ([] : List ByteArray) bt525.1 true bt525.2.1 bt525.2.2) else (if bt525.1 < 1 then (q_reader_texts.j1 k a2 ([] : List ByteArray) bt525.1 true bt525.2.1 bt525.2.2) else (if bt525.1 > a2 then (q_reader_texts.j1 k a2 ([] : List ByteArray) bt525.1 true bt525.2.1 bt525.2.2) else (q_reader_texts.j1 k a2 ([] : List ByteArray) bt525.1 (a1 != 3) bt525.2.1 bt525.2.2)))))) = some (r1, r2, r3) := h
 clear h
 by_cases c4 : a1 = 1
 ·rw [if_pos c4] at H
  have c4b0 : (a1 == 1) = true := beq_iff_eq.mpr c4
  have c4b1 : (a1 != 1) = false := bne_eq_false_iff_eq.mpr c4
  clear c4
  have H' := Ak H
  clear H
  go_enter Try.func73, Try.ntmps73
  go_wp2
  go_loopg [7] k (fun kq v7 w' => ∃ (x7_1 : List ByteArray) (x1000_1 : List Int) (x1001_1 : Bool), Aside0 (q_reader_texts.l0 kq a2 x7_1 x1000_1 x1001_1 = some (r1, r2, r3)) ∧ Aside0 (kq ≤ k) ∧ Aside0 (Kd.R Kd.string 9 w' w.heap.size (fun _ => True) v7 x7_1) ∧ Aside0 (IsS75 w0 w' g x1000_1 x1001_1) ∧ Aside0 (KeepBut w w' g none) ∧ Aside0 (Below w0.heap.size w0 w'))
  case atStart => exact ⟨(([] : List ByteArray)), (s0_0), (s0_1), H', ⟨Nat.le_refl _⟩, ⟨by exact Kd.R_nil _ _ _ _ _⟩, ⟨by exact HI0.out⟩, ⟨by exact HK.out⟩, ⟨by exact HB.out⟩⟩
  case round =>
   clear H'
   try clear c4b0
   try clear c4b1
   obtain ⟨x7_1, x1000_1, x1001_1, HA, HK1, HO_7, HI0, HK, HB⟩ := hrel
   cases gk with
   | zero => exact absurd HA.out (by simp [q_reader_texts.l0])
   | succ k1 =>
    have H := HA.out
    clear HA
    simp only [q_reader_texts.l0] at H
    by_cases c5 : (x7_1.length : Int) < a2
    ·rw [if_pos c5] at H
     have c5b0 : decide ((x7_1.length : Int) < a2) = true := decide_eq_true c5
     clear c5
     by_cases c6 : x1001_1 = true
     ·subst c6
      replace H : (some (x7_1, x1000_1, true)) = some (r1, r2, r3) := by rw [if_pos rfl] at H; exact H
      simp only [Option.some.injEq, Prod.mk.injEq] at H
      obtain ⟨rfl, rfl, rfl⟩ := H
      obtain ⟨Ao7, co7, eo7⟩ := Kd.R_slice HO_7.out
      subst eo7
      obtain ⟨ASz8_0, cSz8_0, HGz8, hgz8, HSz8_0⟩ := HI0.out
      have hcz8_0 := cellS75_0 HGz8
      have hcz8_1 := cellS75_1 HGz8
      have hfz8_0 := blk_frozen HGz8 0
      have hfz8_1 := blk_frozen HGz8 1
      have HCSz8_0 := HSz8_0.1
      replace HSz8_0 := HSz8_0.2
      clear HGz8 hgz8
      go_wp2
      go_ret
      exact ⟨_, by rfl, by exact HO_7.out, by exact HI0.out, by exact HB.out, by exact HK.out⟩
     ·replace c6 := Bool.eq_false_iff.mpr c6
      subst c6
      replace H : ((q_reader_text.f k1 x1000_1 false (⟨#[]⟩ : ByteArray) 0).bind fun bt519 => (if x7_1.length < 8796093022208 then (q_reader_texts.l0 k1 a2 (x7_1 ++ [bt519.1]) bt519.2.1 bt519.2.2) else (none))) = some (r1, r2, r3) := by rw [if_neg (show ¬ (false = true) by decide)] at H; exact H
      replace H := Option.bind_eq_some_iff.mp H
      obtain ⟨⟨t519, t520, t521⟩, A90, H⟩ := H
      replace H : (if x7_1.length < 8796093022208 then (q_reader_texts.l0 k1 a2 (x7_1 ++ [t519]) t520 t521) else (none)) = some (r1, r2, r3) := H
      have A9 := Ak A90
      clear A90
      by_cases c10 : x7_1.length < 8796093022208
      ·rw [if_pos c10] at H
       have LMc10 := Ak c10
       clear c10
       obtain ⟨y522, hy522⟩ : ∃ y_ : List ByteArray, y_ = (x7_1 ++ [t519]) := ⟨_, rfl⟩
       replace H : (q_reader_texts.l0 k1 a2 y522 t520 t521) = some (r1, r2, r3) := by (rw [hy522]; with_reducible exact H)
       have Ny522 := Ak hy522
       clear hy522
       have H' := Ak H
       clear H
       obtain ⟨Ao11, co11, eo11⟩ := Kd.R_slice HO_7.out
       subst eo11
       obtain ⟨ASz12_0, cSz12_0, HGz12, hgz12, HSz12_0⟩ := HI0.out
       have hcz12_0 := cellS75_0 HGz12
       have hcz12_1 := cellS75_1 HGz12
       have hfz12_0 := blk_frozen HGz12 0
       have hfz12_1 := blk_frozen HGz12 1
       have HCSz12_0 := HSz12_0.1
       replace HSz12_0 := HSz12_0.2
       clear HGz12 hgz12
       go_wp2_with (first | ((with_reducible refine gate_callee (f := 105) rfl ?_); refine goesL_ (some 29) rfl rfl Try.func105 (by kernel_rfl) rfl #[.pointer (some ⟨g, 0, none⟩), .string (⟨#[]⟩ : ByteArray), .int .i64 0] rfl (by (try simp only [lm]); rfl) ?_; (with_reducible refine (q_reader_text.calls k1 g x1000_1 false (⟨#[]⟩ : ByteArray) 0 t519 t520 t521 w0 _ ?side1 ?side2 A9.out).mono ?_); (case side1 => exact HI0.out); (case side2 => exact HB.out); rintro e w13 ⟨rfl, hi, hb, hk⟩; refine ⟨_, rfl, ?_⟩; have n0_ := Ak (Kd.R_mono (Kd.R_keep (IsS75.apart (show IsS75 w0 _ g x1000_1 false from by exact HI0.out) (by exact HO_7.out) (by decide)) hk (fun _ h => h.2)) (fun _ h => h.1)); have n1_ := Ak (KeepBut.trans (by exact HK.out) hk (.inl rfl)); have n2_ := Ak (hb); have n3_ := Ak (hi); clear HO_7 HK HB HI0; have HO_7 := n0_; have HK := n1_; have HB := n2_; have HI0 := n3_; clear n0_ n1_ n2_ n3_; (try clear hb); (try clear hk); (try clear hi)) | ((with_reducible refine gate_builtin (b := .append) (xs := #[.tmp 27, .tmp 30]) rfl ?_); at_builtin; refine Kd.R_append Kd.string w.heap.size rfl (.tmp 27) (.tmp 30) 52 9 (.string ⟨#[]⟩) 16 rfl Try.underlying52 info9 rfl (by decide) (by omega) (.slice Ao11 x7_1.length co11) x7_1 t519 [.string t519] (fun _ => True) (fun _ => False) rfl rfl ?aP (fun _ hk => hk.elim) ?aF ?aO (Below.refl _ _) ?aS ?aL ?_; (case aP => exact rfl); (case aF => exact (fun _ _ => trivial)); (case aO => exact (by exact HO_7.out)); (case aS => exact (keep_size (w := w) (g := g) (row := none) (by exact HK.out))); (case aL => have := LMc10.out; omega); intro v523 w14 ho hb hg hat; rw [← Ny522.out] at ho; have n0_ := Ak (IsS75.grown (by exact HI0.out) hg (IsS75.own_ne HI0.out HO_7.out (by decide))); have n1_ := Ak (below_weaken (by exact HB.out) HL.out hb); have n2_ := Ak (KeepBut.trans (by exact HK.out) (KeepBut.of_grown hg g) (Kd.R_base2 HO_7.out)); have n3_ := Ak (ho); clear HI0 HB HK HO_7; have HI0 := n0_; have HB := n1_; have HK := n2_; have HO524 := n3_; clear n0_ n1_ n2_ n3_ ho hb hg hat))
       go_roundg k1
       case measure => have := HK1.out; omega
       case rel => exact ⟨(y522), (t520), (t521), H', ⟨by have := HK1.out; omega⟩, ⟨by exact HO524.out⟩, ⟨by exact HI0.out⟩, ⟨by exact HK.out⟩, ⟨by exact HB.out⟩⟩
      ·rw [if_neg c10] at H
       exact absurd H (by simp)
    ·rw [if_neg c5] at H
     have c5b0 : decide ((x7_1.length : Int) < a2) = false := decide_eq_false c5
     clear c5
     simp only [Option.some.injEq, Prod.mk.injEq] at H
     obtain ⟨rfl, rfl, rfl⟩ := H
     obtain ⟨Ao15, co15, eo15⟩ := Kd.R_slice HO_7.out
     subst eo15
     go_wp2
     go_ret
     exact ⟨_, by rfl, by exact HO_7.out, by exact HI0.out, by exact HB.out, by exact HK.out⟩
 ·rw [if_neg c4] at H
  have c4b0 : (a1 == 1) = false := beq_eq_false_iff_ne.mpr c4
  have c4b1 : (a1 != 1) = true := bne_iff_ne.mpr c4
  replace H := Option.bind_eq_some_iff.mp H
  obtain ⟨⟨t525, t526, t527⟩, A160, H⟩ := H
  replace H : (if t527 = true then (q_reader_texts.j1 k a2 ([] : List ByteArray) t525 true t526 t527) else (if t525 < 1 then (q_reader_texts.j1 k a2 ([] : List ByteArray) t525 true t526 t527) else (if t525 > a2 then (q_reader_texts.j1 k a2 ([] : List ByteArray) t525 true t526 t527) else (q_reader_texts.j1 k a2 ([] : List ByteArray) t525 (a1 != 3) t526 t527)))) = some (r1, r2, r3) := H
  have A16 := Ak A160
  clear A160
  have HC17 := Ak H
  clear H
  go_enter Try.func73, Try.ntmps73
  go_upto_region 7 with (first | ((with_reducible refine gate_callee (f := 60) rfl ?_); refine goesL_ (some 34) rfl rfl Try.func60 (by kernel_rfl) rfl #[.pointer (some ⟨g, 0, none⟩)] rfl (by (try simp only [lm]); rfl) ?_; (with_reducible refine (q_reader_count.calls k g s0_0 s0_1 t525 t526 t527 w0 _ ?side1 ?side2 A16.out).mono ?_); (case side1 => exact HI0.out); (case side2 => exact HB.out); rintro e w18 ⟨rfl, hi, hb, hk⟩; refine ⟨_, rfl, ?_⟩; have n0_ := Ak (KeepBut.trans (by exact HK.out) hk (.inl rfl)); have n1_ := Ak (hb); have n2_ := Ak (hi); clear HK HB HI0; have HK := n0_; have HB := n1_; have HI0 := n2_; clear n0_ n1_ n2_; (try clear hb); (try clear hk); (try clear hi)))
  (try simp only [Act.put, List.setIfInBounds_toArray, List.set_cons_zero, List.set_cons_succ])
  go_cut [51] (fun v51 wc => ∃ (kq : Nat) (x51_16 : Bool), v51 = .bool x51_16 ∧ Aside0 (q_reader_texts.j1 kq a2 ([] : List ByteArray) t525 x51_16 t526 t527 = some (r1, r2, r3)) ∧ Aside0 (kq ≤ k) ∧ Aside0 (Kd.R Kd.string 9 wc w.heap.size (fun _ => True) (.slice none 0 0) ([] : List ByteArray)) ∧ Aside0 (IsS75 w0 wc g t526 t527) ∧ Aside0 (KeepBut w wc g none) ∧ Aside0 (Below w0.heap.size w0 wc))
  case first =>
   have H := HC17.out
   clear HC17
   by_cases c19 : t527 = true
   ·subst c19
    replace H : (q_reader_texts.j1 k a2 ([] : List ByteArray) t525 true t526 true) = some (r1, r2, r3) := by rw [if_pos rfl] at H; exact H
    have H' := Ak H
    clear H
    obtain ⟨ASz20_0, cSz20_0, HGz20, hgz20, HSz20_0⟩ := HI0.out
    have hcz20_0 := cellS75_0 HGz20
    have hcz20_1 := cellS75_1 HGz20
    have hfz20_0 := blk_frozen HGz20 0
    have hfz20_1 := blk_frozen HGz20 1
    have HCSz20_0 := HSz20_0.1
    replace HSz20_0 := HSz20_0.2
    clear HGz20 hgz20
    go_wp2
    go_meet
    case rel => exact ⟨_, (true), (by rfl), H', ⟨by omega⟩, ⟨by exact Kd.R_nil _ _ _ _ _⟩, ⟨by exact HI0.out⟩, ⟨by exact HK.out⟩, ⟨by exact HB.out⟩⟩
   ·replace c19 := Bool.eq_false_iff.mpr c19
    subst c19
    replace H : (if t525 < 1 then (q_reader_texts.j1 k a2 ([] : List ByteArray) t525 true t526 false) else (if t525 > a2 then (q_reader_texts.j1 k a2 ([] : List ByteArray) t525 true t526 false) else (q_reader_texts.j1 k a2 ([] : List ByteArray) t525 (a1 != 3) t526 false))) = some (r1, r2, r3) := by rw [if_neg (show ¬ (false = true) by decide)] at H; exact H
    by_cases c21 : t525 < 1
    ·rw [if_pos c21] at H
     have c21b0 : decide (t525 < 1) = true := decide_eq_true c21
     clear c21
     (skip)
     (try rw [c21b1])
     have H' := Ak H
     clear H
     obtain ⟨ASz22_0, cSz22_0, HGz22, hgz22, HSz22_0⟩ := HI0.out
     have hcz22_0 := cellS75_0 HGz22
     have hcz22_1 := cellS75_1 HGz22
     have hfz22_0 := blk_frozen HGz22 0
     have hfz22_1 := blk_frozen HGz22 1
     have HCSz22_0 := HSz22_0.1
     replace HSz22_0 := HSz22_0.2
     clear HGz22 hgz22
     go_wp2
     go_meet
     case rel => exact ⟨_, (true), (by rfl), H', ⟨by omega⟩, ⟨by exact Kd.R_nil _ _ _ _ _⟩, ⟨by exact HI0.out⟩, ⟨by exact HK.out⟩, ⟨by exact HB.out⟩⟩
    ·rw [if_neg c21] at H
     have c21b0 : decide (t525 < 1) = false := decide_eq_false c21
     clear c21
     (skip)
     (try rw [c21b1])
     by_cases c23 : t525 > a2
     ·rw [if_pos c23] at H
      have c23b0 : decide (a2 < t525) = true := decide_eq_true c23
      clear c23
      have H' := Ak H
      clear H
      obtain ⟨ASz24_0, cSz24_0, HGz24, hgz24, HSz24_0⟩ := HI0.out
      have hcz24_0 := cellS75_0 HGz24
      have hcz24_1 := cellS75_1 HGz24
      have hfz24_0 := blk_frozen HGz24 0
      have hfz24_1 := blk_frozen HGz24 1
      have HCSz24_0 := HSz24_0.1
      replace HSz24_0 := HSz24_0.2
      clear HGz24 hgz24
      go_wp2
      go_meet
      case rel => exact ⟨_, (true), (by rfl), H', ⟨by omega⟩, ⟨by exact Kd.R_nil _ _ _ _ _⟩, ⟨by exact HI0.out⟩, ⟨by exact HK.out⟩, ⟨by exact HB.out⟩⟩
     ·rw [if_neg c23] at H
      have c23b0 : decide (a2 < t525) = false := decide_eq_false c23
      clear c23
      have H' := Ak H
      clear H
      obtain ⟨ASz25_0, cSz25_0, HGz25, hgz25, HSz25_0⟩ := HI0.out
      have hcz25_0 := cellS75_0 HGz25
      have hcz25_1 := cellS75_1 HGz25
      have hfz25_0 := blk_frozen HGz25 0
      have hfz25_1 := blk_frozen HGz25 1
      have HCSz25_0 := HSz25_0.1
      replace HSz25_0 := HSz25_0.2
      clear HGz25 hgz25
      go_wp2
      go_meet
      case rel => exact ⟨_, ((a1 != 3)), (by rfl), H', ⟨by omega⟩, ⟨by exact Kd.R_nil _ _ _ _ _⟩, ⟨by exact HI0.out⟩, ⟨by exact HK.out⟩, ⟨by exact HB.out⟩⟩
  case rest =>
   clear HC17
   try clear c4
   try clear c4b0
   try clear c4b1
   obtain ⟨kq, x51_16, rfl, HA, HJ16, HO_7, HI0, HK, HB⟩ := hcut
   cases kq with
   | zero => exact absurd HA.out (by simp [q_reader_texts.j1])
   | succ kj16 =>
    have H := HA.out
    clear HA
    simp only [q_reader_texts.j1] at H
    by_cases c26 : x51_16 = true
    ·subst c26
     replace H : (some (([] : List ByteArray), t526, true)) = some (r1, r2, r3) := by rw [if_pos rfl] at H; exact H
     simp only [Option.some.injEq, Prod.mk.injEq] at H
     obtain ⟨rfl, rfl, rfl⟩ := H
     obtain ⟨ASz27_0, cSz27_0, HGz27, hgz27, HSz27_0⟩ := HI0.out
     have hcz27_0 := cellS75_0 HGz27
     have hcz27_1 := cellS75_1 HGz27
     have hfz27_0 := blk_frozen HGz27 0
     have hfz27_1 := blk_frozen HGz27 1
     have HCSz27_0 := HSz27_0.1
     replace HSz27_0 := HSz27_0.2
     clear HGz27 hgz27
     go_wp2
     go_ret
     exact ⟨_, by rfl, by exact Kd.R_nil _ _ _ _ _, by repeat ((with_reducible first | exact HI0.out | apply IsS75.set_1)), by repeat ((with_reducible first | exact HB.out | refine below_set ?_ (IsS75.ge HI0.out))), by repeat ((with_reducible first | exact HK.out | apply KeepBut.set_ ))⟩
    ·replace c26 := Bool.eq_false_iff.mpr c26
     subst c26
     replace H : (q_reader_texts.l1 kj16 a2 ([] : List ByteArray) t525 ([] : List ByteArray) (⟨#[]⟩ : ByteArray) t526 t527) = some (r1, r2, r3) := by rw [if_neg (show ¬ (false = true) by decide)] at H; exact H
     have H' := Ak H
     clear H
     go_wp2
     go_loopg [9, 10] kj16 (fun kq v9 v10 w' => ∃ (x9_2 : List ByteArray) (x10_2 : ByteArray) (x1000_2 : List Int) (x1001_2 : Bool), v10 = .string x10_2 ∧ Aside0 (q_reader_texts.l1 kq a2 ([] : List ByteArray) t525 x9_2 x10_2 x1000_2 x1001_2 = some (r1, r2, r3)) ∧ Aside0 (kq ≤ kj16) ∧ Aside0 (Kd.R Kd.string 9 w' w.heap.size (fun k_ => some k_ ≠ (v9 : Value).ownBlock) (.slice none 0 0) ([] : List ByteArray)) ∧ Aside0 (Kd.R Kd.string 9 w' w.heap.size (fun _ => True) v9 x9_2) ∧ Aside0 (IsS75 w0 w' g x1000_2 x1001_2) ∧ Aside0 (KeepBut w w' g none) ∧ Aside0 (Below w0.heap.size w0 w'))
     case atStart => exact ⟨(([] : List ByteArray)), ((⟨#[]⟩ : ByteArray)), (t526), (t527), (by rfl), H', ⟨Nat.le_refl _⟩, ⟨by exact Kd.R_mono HO_7.out (fun _ hk => (by simp [Value.ownBlock]))⟩, ⟨by exact Kd.R_nil _ _ _ _ _⟩, ⟨by exact HI0.out⟩, ⟨by exact HK.out⟩, ⟨by exact HB.out⟩⟩
     case round =>
      clear H'
      obtain ⟨x9_2, x10_2, x1000_2, x1001_2, rfl, HA, HK2, HO_7, HO_9, HI0, HK, HB⟩ := hrel
      cases gk with
      | zero => exact absurd HA.out (by simp [q_reader_texts.l1])
      | succ k2 =>
       have H := HA.out
       clear HA
       simp only [q_reader_texts.l1] at H
       have HC28 := Ak H
       clear H
       go_upto_region 12 with (fail)
       go_cut [65] (fun v65 wc => ∃ (kq : Nat) (x65_27 : Bool), v65 = .bool x65_27 ∧ Aside0 (q_reader_texts.j3 kq a2 ([] : List ByteArray) t525 x9_2 x10_2 x65_27 x1000_2 x1001_2 = some (r1, r2, r3)) ∧ Aside0 (kq ≤ k2) ∧ Aside0 (Kd.R Kd.string 9 wc w.heap.size (fun k_ => some k_ ≠ (u9 : Value).ownBlock) (.slice none 0 0) ([] : List ByteArray)) ∧ Aside0 (Kd.R Kd.string 9 wc w.heap.size (fun k_ => some k_ ≠ ((.slice none 0 0) : Value).ownBlock) u9 x9_2) ∧ Aside0 (IsS75 w0 wc g x1000_2 x1001_2) ∧ Aside0 (KeepBut w wc g none) ∧ Aside0 (Below w0.heap.size w0 wc))
       case first =>
        have H := HC28.out
        clear HC28
        by_cases c29 : (x9_2.length : Int) < t525
        ·rw [if_pos c29] at H
         have c29b0 : decide ((x9_2.length : Int) < t525) = true := decide_eq_true c29
         clear c29
         (skip)
         (try rw [c29b1])
         have H' := Ak H
         clear H
         obtain ⟨Ao30, co30, eo30⟩ := Kd.R_slice HO_9.out
         subst eo30
         obtain ⟨ASz31_0, cSz31_0, HGz31, hgz31, HSz31_0⟩ := HI0.out
         have hcz31_0 := cellS75_0 HGz31
         have hcz31_1 := cellS75_1 HGz31
         have hfz31_0 := blk_frozen HGz31 0
         have hfz31_1 := blk_frozen HGz31 1
         have HCSz31_0 := HSz31_0.1
         replace HSz31_0 := HSz31_0.2
         clear HGz31 hgz31
         go_wp2
         go_meet
         case rel => exact ⟨_, (!x1001_2), (by rfl), H', ⟨by have := HJ16.out; have := HK2.out; omega⟩, ⟨by exact HO_7.out⟩, ⟨by exact Kd.R_mono HO_9.out (fun _ hk => (by simp [Value.ownBlock]))⟩, ⟨by exact HI0.out⟩, ⟨by exact HK.out⟩, ⟨by exact HB.out⟩⟩
        ·rw [if_neg c29] at H
         have c29b0 : decide ((x9_2.length : Int) < t525) = false := decide_eq_false c29
         clear c29
         (skip)
         (try rw [c29b1])
         have H' := Ak H
         clear H
         obtain ⟨Ao32, co32, eo32⟩ := Kd.R_slice HO_9.out
         subst eo32
         go_wp2
         go_meet
         case rel => exact ⟨_, (false), (by rfl), H', ⟨by have := HJ16.out; have := HK2.out; omega⟩, ⟨by exact HO_7.out⟩, ⟨by exact Kd.R_mono HO_9.out (fun _ hk => (by simp [Value.ownBlock]))⟩, ⟨by exact HI0.out⟩, ⟨by exact HK.out⟩, ⟨by exact HB.out⟩⟩
       case rest =>
        clear HC28
        obtain ⟨kq, x65_27, rfl, HA, HJ27, HO_7, HO_9, HI0, HK, HB⟩ := hcut
        cases kq with
        | zero => exact absurd HA.out (by simp [q_reader_texts.j3])
        | succ kj27 =>
         have H := HA.out
         clear HA
         simp only [q_reader_texts.j3] at H
         by_cases c33 : x65_27 = true
         ·subst c33
          replace H : ((q_reader_count.f kj27 x1000_2 x1001_2).bind fun bt528 => ((q_reader_text.f kj27 bt528.2.1 bt528.2.2 x10_2 bt528.1).bind fun bt531 => (if x9_2.length < 8796093022208 then (q_reader_texts.l1 kj27 a2 ([] : List ByteArray) t525 (x9_2 ++ [bt531.1]) bt531.1 bt531.2.1 bt531.2.2) else (none)))) = some (r1, r2, r3) := by rw [if_pos rfl] at H; exact H
          replace H := Option.bind_eq_some_iff.mp H
          obtain ⟨⟨t528, t529, t530⟩, A340, H⟩ := H
          replace H : ((q_reader_text.f kj27 t529 t530 x10_2 t528).bind fun bt531 => (if x9_2.length < 8796093022208 then (q_reader_texts.l1 kj27 a2 ([] : List ByteArray) t525 (x9_2 ++ [bt531.1]) bt531.1 bt531.2.1 bt531.2.2) else (none))) = some (r1, r2, r3) := H
          have A34 := Ak A340
          clear A340
          replace H := Option.bind_eq_some_iff.mp H
          obtain ⟨⟨t531, t532, t533⟩, A350, H⟩ := H
          replace H : (if x9_2.length < 8796093022208 then (q_reader_texts.l1 kj27 a2 ([] : List ByteArray) t525 (x9_2 ++ [t531]) t531 t532 t533) else (none)) = some (r1, r2, r3) := H
          have A35 := Ak A350
          clear A350
          by_cases c36 : x9_2.length < 8796093022208
          ·rw [if_pos c36] at H
           have LMc36 := Ak c36
           clear c36
           obtain ⟨y534, hy534⟩ : ∃ y_ : List ByteArray, y_ = (x9_2 ++ [t531]) := ⟨_, rfl⟩
           replace H : (q_reader_texts.l1 kj27 a2 ([] : List ByteArray) t525 y534 t531 t532 t533) = some (r1, r2, r3) := by (rw [hy534]; with_reducible exact H)
           have Ny534 := Ak hy534
           clear hy534
           have H' := Ak H
           clear H
           go_wp2_with (first | ((with_reducible refine gate_callee (f := 60) rfl ?_); refine goesL_ (some 67) rfl rfl Try.func60 (by kernel_rfl) rfl #[.pointer (some ⟨g, 0, none⟩)] rfl (by (try simp only [lm]); rfl) ?_; (with_reducible refine (q_reader_count.calls kj27 g x1000_2 x1001_2 t528 t529 t530 w0 _ ?side1 ?side2 A34.out).mono ?_); (case side1 => exact HI0.out); (case side2 => exact HB.out); rintro e w37 ⟨rfl, hi, hb, hk⟩; refine ⟨_, rfl, ?_⟩; have n0_ := Ak (Kd.R_mono (Kd.R_keep (IsS75.apart (show IsS75 w0 _ g x1000_2 x1001_2 from by exact HI0.out) (by exact HO_7.out) (by decide)) hk (fun _ h => h.2)) (fun _ h => h.1)); have n1_ := Ak (Kd.R_mono (Kd.R_keep (IsS75.apart (show IsS75 w0 _ g x1000_2 x1001_2 from by exact HI0.out) (by exact HO_9.out) (by decide)) hk (fun _ h => h.2)) (fun _ h => h.1)); have n2_ := Ak (KeepBut.trans (by exact HK.out) hk (.inl rfl)); have n3_ := Ak (hb); have n4_ := Ak (hi); clear HO_7 HO_9 HK HB HI0; have HO_7 := n0_; have HO_9 := n1_; have HK := n2_; have HB := n3_; have HI0 := n4_; clear n0_ n1_ n2_ n3_ n4_; (try clear hb); (try clear hk); (try clear hi)) | ((with_reducible refine gate_callee (f := 105) rfl ?_); refine goesL_ (some 71) rfl rfl Try.func105 (by kernel_rfl) rfl #[.pointer (some ⟨g, 0, none⟩), .string x10_2, .int .i64 t528] rfl (by (try simp only [lm]); rfl) ?_; (with_reducible refine (q_reader_text.calls kj27 g t529 t530 x10_2 t528 t531 t532 t533 w0 _ ?side1 ?side2 A35.out).mono ?_); (case side1 => exact HI0.out); (case side2 => exact HB.out); rintro e w38 ⟨rfl, hi, hb, hk⟩; refine ⟨_, rfl, ?_⟩; have n0_ := Ak (Kd.R_mono (Kd.R_keep (IsS75.apart (show IsS75 w0 _ g t529 t530 from by exact HI0.out) (by exact HO_7.out) (by decide)) hk (fun _ h => h.2)) (fun _ h => h.1)); have n1_ := Ak (Kd.R_mono (Kd.R_keep (IsS75.apart (show IsS75 w0 _ g t529 t530 from by exact HI0.out) (by exact HO_9.out) (by decide)) hk (fun _ h => h.2)) (fun _ h => h.1)); have n2_ := Ak (KeepBut.trans (by exact HK.out) hk (.inl rfl)); have n3_ := Ak (hb); have n4_ := Ak (hi); clear HO_7 HO_9 HK HB HI0; have HO_7 := n0_; have HO_9 := n1_; have HK := n2_; have HB := n3_; have HI0 := n4_; clear n0_ n1_ n2_ n3_ n4_; (try clear hb); (try clear hk); (try clear hi)) | ((with_reducible refine gate_builtin (b := .append) (xs := #[.tmp 72, .tmp 74]) rfl ?_); at_builtin; refine Kd.R_append Kd.string w.heap.size rfl (.tmp 72) (.tmp 74) 52 9 (.string ⟨#[]⟩) 16 rfl Try.underlying52 info9 rfl (by decide) (by omega) u9 x9_2 t531 [.string t531] (fun k_ => some k_ ≠ (.slice none 0 0 : Value).ownBlock) (fun _ => False) rfl rfl ?aP (fun _ hk => hk.elim) ?aF ?aO (Below.refl _ _) ?aS ?aL ?_; (case aP => exact rfl); (case aF => exact (fun k_ hk => Kd.fresh' (Kd.R_lt (by exact HO_7.out)) k_ hk)); (case aO => exact (by exact HO_9.out)); (case aS => exact (keep_size (w := w) (g := g) (row := none) (by exact HK.out))); (case aL => have := LMc36.out; omega); intro v535 w39 ho hb hg hat; rw [← Ny534.out] at ho; have n0_ := Ak (Kd.R_after (ok := (fun _ => True)) (by exact Kd.R_mono HO_7.out (fun _ hk => ⟨trivial, hk⟩)) hg hat); have n1_ := Ak (IsS75.grown (by exact HI0.out) hg (IsS75.own_ne HI0.out HO_9.out (by decide))); have n2_ := Ak (below_weaken (by exact HB.out) HL.out hb); have n3_ := Ak (KeepBut.trans (by exact HK.out) (KeepBut.of_grown hg g) (Kd.R_base2 HO_9.out)); have n4_ := Ak (ho); clear HO_7 HI0 HB HK HO_9; have HO_7 := n0_; have HI0 := n1_; have HB := n2_; have HK := n3_; have HO536 := n4_; clear n0_ n1_ n2_ n3_ n4_ ho hb hg hat))
           go_roundg kj27
           case measure => have := HJ16.out; have := HK2.out; have := HJ27.out; omega
           case rel => exact ⟨(y534), (t531), (t532), (t533), (by rfl), H', ⟨by have := HJ16.out; have := HK2.out; have := HJ27.out; omega⟩, ⟨by exact Kd.R_mono HO_7.out (fun _ hk => hk.2)⟩, ⟨by exact Kd.R_mono HO536.out (fun _ _ => trivial)⟩, ⟨by exact HI0.out⟩, ⟨by exact HK.out⟩, ⟨by exact HB.out⟩⟩
          ·rw [if_neg c36] at H
           exact absurd H (by simp)
         ·replace c33 := Bool.eq_false_iff.mpr c33
          subst c33
          replace H : (if x1001_2 = true then (some (([] : List ByteArray), x1000_2, x1001_2)) else ((q_width.f (wrap64 (t525 - 1))).bind fun t537 => ((q_reader_unpacked.f kj27 x1000_2 x1001_2 a2 t537).bind fun bt538 => (q_reader_texts.l2 kj27 ([] : List ByteArray) x9_2 bt538.1 (bt538.1.length : Int) 0 bt538.2.1 bt538.2.2)))) = some (r1, r2, r3) := by rw [if_neg (show ¬ (false = true) by decide)] at H; exact H
          by_cases c40 : x1001_2 = true
          ·subst c40
           replace H : (some (([] : List ByteArray), x1000_2, true)) = some (r1, r2, r3) := by rw [if_pos rfl] at H; exact H
           simp only [Option.some.injEq, Prod.mk.injEq] at H
           obtain ⟨rfl, rfl, rfl⟩ := H
           obtain ⟨ASz41_0, cSz41_0, HGz41, hgz41, HSz41_0⟩ := HI0.out
           have hcz41_0 := cellS75_0 HGz41
           have hcz41_1 := cellS75_1 HGz41
           have hfz41_0 := blk_frozen HGz41 0
           have hfz41_1 := blk_frozen HGz41 1
           have HCSz41_0 := HSz41_0.1
           replace HSz41_0 := HSz41_0.2
           clear HGz41 hgz41
           go_wp2
           go_ret
           exact ⟨_, by rfl, by exact Kd.R_nil _ _ _ _ _, by exact HI0.out, by exact HB.out, by exact HK.out⟩
          ·replace c40 := Bool.eq_false_iff.mpr c40
           subst c40
           replace H : ((q_width.f (wrap64 (t525 - 1))).bind fun t537 => ((q_reader_unpacked.f kj27 x1000_2 false a2 t537).bind fun bt538 => (q_reader_texts.l2 kj27 ([] : List ByteArray) x9_2 bt538.1 (bt538.1.length : Int) 0 bt538.2.1 bt538.2.2))) = some (r1, r2, r3) := by rw [if_neg (show ¬ (false = true) by decide)] at H; exact H
           replace H := Option.bind_eq_some_iff.mp H
           obtain ⟨t537, A420, H⟩ := H
           replace H : ((q_reader_unpacked.f kj27 x1000_2 false a2 t537).bind fun bt538 => (q_reader_texts.l2 kj27 ([] : List ByteArray) x9_2 bt538.1 (bt538.1.length : Int) 0 bt538.2.1 bt538.2.2)) = some (r1, r2, r3) := H
           have A42 := Ak A420
           clear A420
           replace H := Option.bind_eq_some_iff.mp H
           obtain ⟨⟨t538, t541, t542⟩, A430, H⟩ := H
           replace H : (q_reader_texts.l2 kj27 ([] : List ByteArray) x9_2 t538 (t538.length : Int) 0 t541 t542) = some (r1, r2, r3) := H
           have A43 := Ak A430
           clear A430
           have H' := Ak H
           clear H
           obtain ⟨ASz44_0, cSz44_0, HGz44, hgz44, HSz44_0⟩ := HI0.out
           have hcz44_0 := cellS75_0 HGz44
           have hcz44_1 := cellS75_1 HGz44
           have hfz44_0 := blk_frozen HGz44 0
           have hfz44_1 := blk_frozen HGz44 1
           have HCSz44_0 := HSz44_0.1
           replace HSz44_0 := HSz44_0.2
           clear HGz44 hgz44
           go_wp2_with (first | ((with_reducible refine gate_callee (f := 104) rfl ?_); refine goesL_ (some 84) rfl rfl Try.func104 (by kernel_rfl) rfl #[.int .i64 (wrap64 (t525 - 1))] rfl (by (try simp only [lm]); rfl) ?_; (with_reducible refine (q_width.calls (wrap64 (t525 - 1)) t537 _ A42.out).mono ?_); rintro e w' ⟨rfl, ⟨nd, rfl⟩⟩; refine ⟨_, rfl, ?_⟩) | ((with_reducible refine gate_callee (f := 89) rfl ?_); refine goesL_ (some 85) rfl rfl Try.func89 (by kernel_rfl) rfl #[.pointer (some ⟨g, 0, none⟩), .int .i64 a2, .int .i64 t537] rfl (by (try simp only [lm]); rfl) ?_; (with_reducible refine (q_reader_unpacked.calls kj27 g x1000_2 false a2 t537 t538 t541 t542 w0 _ ?side1 ?side2 A43.out).mono ?_); (case side1 => repeat ((with_reducible first | exact HI0.out | apply IsS75.drewN ))); (case side2 => repeat ((with_reducible first | exact HB.out | apply pw_below_drewN ))); rintro e w45 ⟨v539, rfl, ho0, hi, hb, hk⟩; refine ⟨_, rfl, ?_⟩; have n0_ := Ak (Kd.R_mono (Kd.R_keep (IsS75.apart (show IsS75 w0 _ g x1000_2 false from by repeat ((with_reducible first | exact HI0.out | apply IsS75.drewN ))) (by (with_reducible repeat (apply Kd.R_drewN)); exact HO_7.out) (by decide)) hk (fun _ h => h.2)) (fun _ h => h.1)); have n1_ := Ak (Kd.R_mono (Kd.R_keep (IsS75.apart (show IsS75 w0 _ g x1000_2 false from by repeat ((with_reducible first | exact HI0.out | apply IsS75.drewN ))) (by (with_reducible repeat (apply Kd.R_drewN)); exact HO_9.out) (by decide)) hk (fun _ h => h.2)) (fun _ h => h.1)); have n2_ := Ak (Kd.R_lower ho0 (keep_size (w := w) (g := g) (row := none) (by repeat ((with_reducible first | exact HK.out | apply keep_drewN ))))); have n3_ := Ak (KeepBut.trans (by repeat ((with_reducible first | exact HK.out | apply keep_drewN ))) hk (.inl rfl)); have n4_ := Ak (hb); have n5_ := Ak (hi); clear HO_7 HO_9 HK HB HI0; have HO_7 := n0_; have HO_9 := n1_; have HO540 := n2_; have HK := n3_; have HB := n4_; have HI0 := n5_; clear n0_ n1_ n2_ n3_ n4_ n5_; (try clear hb); (try clear hk); (try clear hi); (try clear ho0); obtain ⟨Ao46, co46, eo46⟩ := Kd.R_slice HO540.out; subst eo46))
           go_loopg [7, 87] kj27 (fun kq v7 v87 w' => ∃ (x7_4 : List ByteArray) (x87_4 : Int) (x1001_4 : Bool), v87 = .int .i64 x87_4 ∧ Aside0 (q_reader_texts.l2 kq x7_4 x9_2 t538 (t538.length : Int) x87_4 t541 x1001_4 = some (r1, r2, r3)) ∧ Aside0 (kq ≤ kj27) ∧ Aside0 (Kd.R Kd.string 9 w' w.heap.size (fun k_ => some k_ ≠ (u9 : Value).ownBlock) v7 x7_4) ∧ Aside0 (Kd.R Kd.string 9 w' w.heap.size (fun k_ => some k_ ≠ (v7 : Value).ownBlock) u9 x9_2) ∧ Aside0 (Kd.R (Kd.int .i64) 3 w' w.heap.size (fun _ => True) (.slice Ao46 t538.length co46) t538) ∧ Aside0 (IsS75 w0 w' g t541 x1001_4) ∧ Aside0 (KeepBut w w' g none) ∧ Aside0 (Below w0.heap.size w0 w'))
           case atStart => exact ⟨(([] : List ByteArray)), (0), (t542), (by rfl), H', ⟨Nat.le_refl _⟩, ⟨by exact HO_7.out⟩, ⟨by exact HO_9.out⟩, ⟨by exact HO540.out⟩, ⟨by exact HI0.out⟩, ⟨by exact HK.out⟩, ⟨by exact HB.out⟩⟩
           case round =>
            clear H'
            try clear hcz44_0
            try clear hcz44_1
            try clear hfz44_0
            try clear hfz44_1
            obtain ⟨x7_4, x87_4, x1001_4, rfl, HA, HK4, HO_7, HO_9, HO_85, HI0, HK, HB⟩ := hrel
            cases gk with
            | zero => exact absurd HA.out (by simp [q_reader_texts.l2])
            | succ k4 =>
             have H := HA.out
             clear HA
             simp only [q_reader_texts.l2] at H
             by_cases c47 : x87_4 < (t538.length : Int)
             ·rw [if_pos c47] at H
              have c47b0 : decide (x87_4 < (t538.length : Int)) = true := decide_eq_true c47
              clear c47
              by_cases c48 : 0 ≤ x87_4
              ·rw [if_pos c48] at H
               have c48b0 : decide (0 ≤ x87_4) = true := decide_eq_true c48
               clear c48
               by_cases c49 : x87_4 < (t538.length : Int)
               ·rw [if_pos c49] at H
                have c49b0 : decide (x87_4 < (t538.length : Int)) = true := decide_eq_true c49
                clear c49
                by_cases c50 : (rd t538 x87_4) ≥ (x9_2.length : Int)
                ·rw [if_pos c50] at H
                 have c50b0 : decide ((x9_2.length : Int) ≤ (rd t538 x87_4)) = true := decide_eq_true c50
                 clear c50
                 simp only [Option.some.injEq, Prod.mk.injEq] at H
                 obtain ⟨rfl, rfl, rfl⟩ := H
                 have p543 : 0 ≤ (x87_4 : Int) := of_decide_eq_true (by (with_reducible assumption))
                 have q543 : x87_4 < (t538.length : Int) := of_decide_eq_true (by (with_reducible assumption))
                 obtain ⟨ad543, e543, hx543_0⟩ := Kd.at_int (Kd.R_reads' HO_85.out).2.2 x87_4 p543 q543
                 cases e543
                 replace p543 := eq_true p543
                 replace q543 := eq_true q543
                 obtain ⟨Ao51, co51, eo51⟩ := Kd.R_slice HO_9.out
                 subst eo51
                 obtain ⟨ASz52_0, cSz52_0, HGz52, hgz52, HSz52_0⟩ := HI0.out
                 have hcz52_0 := cellS75_0 HGz52
                 have hcz52_1 := cellS75_1 HGz52
                 have hfz52_0 := blk_frozen HGz52 0
                 have hfz52_1 := blk_frozen HGz52 1
                 have HCSz52_0 := HSz52_0.1
                 replace HSz52_0 := HSz52_0.2
                 clear HGz52 hgz52
                 go_wp2
                 go_ret
                 exact ⟨_, by rfl, by exact Kd.R_nil _ _ _ _ _, by repeat ((with_reducible first | exact HI0.out | apply IsS75.set_1)), by repeat ((with_reducible first | exact HB.out | refine below_set ?_ (IsS75.ge HI0.out))), by repeat ((with_reducible first | exact HK.out | apply KeepBut.set_ ))⟩
                ·rw [if_neg c50] at H
                 have c50b0 : decide ((x9_2.length : Int) ≤ (rd t538 x87_4)) = false := decide_eq_false c50
                 clear c50
                 by_cases c53 : 0 ≤ (rd t538 x87_4)
                 ·rw [if_pos c53] at H
                  have c53b0 : decide (0 ≤ (rd t538 x87_4)) = true := decide_eq_true c53
                  clear c53
                  by_cases c54 : (rd t538 x87_4) < (x9_2.length : Int)
                  ·rw [if_pos c54] at H
                   have c54b0 : decide ((rd t538 x87_4) < (x9_2.length : Int)) = true := decide_eq_true c54
                   clear c54
                   by_cases c55 : x7_4.length < 8796093022208
                   ·rw [if_pos c55] at H
                    have LMc55 := Ak c55
                    clear c55
                    obtain ⟨y545, hy545⟩ : ∃ y_ : List ByteArray, y_ = (x7_4 ++ [rdOf ByteArray.empty x9_2 (rd t538 x87_4)]) := ⟨_, rfl⟩
                    replace H : (q_reader_texts.l2 k4 y545 x9_2 t538 (t538.length : Int) (wrap64 (x87_4 + 1)) t541 x1001_4) = some (r1, r2, r3) := by (rw [hy545]; with_reducible exact H)
                    have Ny545 := Ak hy545
                    clear hy545
                    have H' := Ak H
                    clear H
                    have p543 : 0 ≤ (x87_4 : Int) := of_decide_eq_true (by (with_reducible assumption))
                    have q543 : x87_4 < (t538.length : Int) := of_decide_eq_true (by (with_reducible assumption))
                    obtain ⟨ad543, e543, hx543_0⟩ := Kd.at_int (Kd.R_reads' HO_85.out).2.2 x87_4 p543 q543
                    cases e543
                    replace p543 := eq_true p543
                    replace q543 := eq_true q543
                    obtain ⟨Ao56, co56, eo56⟩ := Kd.R_slice HO_9.out
                    subst eo56
                    have p544 : 0 ≤ ((rd t538 x87_4) : Int) := of_decide_eq_true (by (with_reducible assumption))
                    have q544 : (rd t538 x87_4) < (x9_2.length : Int) := of_decide_eq_true (by (with_reducible assumption))
                    obtain ⟨ad544, e544, hx544_0⟩ := Kd.at_string (Kd.R_reads' HO_9.out).2.2 (rd t538 x87_4) p544 q544
                    cases e544
                    replace p544 := eq_true p544
                    replace q544 := eq_true q544
                    go_wp2_with (first | ((with_reducible refine gate_builtin (b := .append) (xs := #[.tmp 98, .tmp 103]) rfl ?_); at_builtin; refine Kd.R_append Kd.string w.heap.size rfl (.tmp 98) (.tmp 103) 52 9 (.string ⟨#[]⟩) 16 rfl Try.underlying52 info9 rfl (by decide) (by omega) u7 x7_4 (rdOf ByteArray.empty x9_2 (rd t538 x87_4)) [.string (rdOf ByteArray.empty x9_2 (rd t538 x87_4))] (fun k_ => some k_ ≠ (.slice (some ad544) x9_2.length co56 : Value).ownBlock) (fun _ => False) rfl rfl ?aP (fun _ hk => hk.elim) ?aF ?aO (Below.refl _ _) ?aS ?aL ?_; (case aP => exact rfl); (case aF => exact (fun k_ hk => Kd.fresh' (Kd.R_lt (by exact HO_9.out)) k_ hk)); (case aO => exact (by exact HO_7.out)); (case aS => exact (keep_size (w := w) (g := g) (row := none) (by exact HK.out))); (case aL => have := LMc55.out; omega); intro v546 w57 ho hb hg hat; rw [← Ny545.out] at ho; have n0_ := Ak (Kd.R_after (ok := (fun _ => True)) (by exact Kd.R_mono HO_9.out (fun _ hk => ⟨trivial, hk⟩)) hg hat); have n1_ := Ak (Kd.R_over' (by exact HO_85.out) (Kd.R_typed (by exact HO_7.out)) (by decide) hg); have n2_ := Ak (IsS75.grown (by exact HI0.out) hg (IsS75.own_ne HI0.out HO_7.out (by decide))); have n3_ := Ak (below_weaken (by exact HB.out) HL.out hb); have n4_ := Ak (KeepBut.trans (by exact HK.out) (KeepBut.of_grown hg g) (Kd.R_base2 HO_7.out)); have n5_ := Ak (ho); clear HO_9 HO_85 HI0 HB HK HO_7; have HO_9 := n0_; have HO_85 := n1_; have HI0 := n2_; have HB := n3_; have HK := n4_; have HO547 := n5_; clear n0_ n1_ n2_ n3_ n4_ n5_ ho hb hg hat))
                    go_roundg k4
                    case measure => have := HJ16.out; have := HK2.out; have := HJ27.out; have := HK4.out; omega
                    case rel => exact ⟨(y545), (wrap64 (x87_4 + 1)), (x1001_4), (by rfl), H', ⟨by have := HJ16.out; have := HK2.out; have := HJ27.out; have := HK4.out; omega⟩, ⟨by exact HO547.out⟩, ⟨by exact Kd.R_mono HO_9.out (fun _ hk => hk.2)⟩, ⟨by exact HO_85.out⟩, ⟨by exact HI0.out⟩, ⟨by exact HK.out⟩, ⟨by exact HB.out⟩⟩
                   ·rw [if_neg c55] at H
                    exact absurd H (by simp)
                  ·rw [if_neg c54] at H
                   exact absurd H (by simp)
                 ·rw [if_neg c53] at H
                  exact absurd H (by simp)
               ·rw [if_neg c49] at H
                exact absurd H (by simp)
              ·rw [if_neg c48] at H
               exact absurd H (by simp)
             ·rw [if_neg c47] at H
              have c47b0 : decide (x87_4 < (t538.length : Int)) = false := decide_eq_false c47
              clear c47
              simp only [Option.some.injEq, Prod.mk.injEq] at H
              obtain ⟨rfl, rfl, rfl⟩ := H
              go_wp2
              go_ret
              exact ⟨_, by rfl, by exact Kd.R_mono HO_7.out (fun _ hk => trivial), by exact HI0.out, by exact HB.out, by exact HK.out⟩
mutual
def q_DecodeTexts.j0 : Nat → List Int → Int → Int → Bool → List Int → Bool → Option (List ByteArray × Int)
 | 0, _, _, _, _, _, _ => none
 | k + 1, x0, x5, x6, x27, x549000, x549001 => if x27 = true then (some (([] : List ByteArray), 3)) else (if x6 > 0 then ((q_reader_texts.f k x549000 x549001 x5 x6).bind fun bt555 => (q_DecodeTexts.j1 k x0 x5 bt555.1 bt555.2.1 bt555.2.2)) else (q_DecodeTexts.j1 k x0 x5 ([] : List ByteArray) x549000 x549001))
def q_DecodeTexts.j1 : Nat → List Int → Int → List ByteArray → List Int → Bool → Option (List ByteArray × Int)
 | 0, _, _, _, _, _ => none
 | k + 1, x0, x5, x7, x549000, x549001 => if x549001 = true then (some (([] : List ByteArray), 3)) else ((q_EncodeTexts.f k x5 x7).bind fun bt560 => (if bt560.2 = 0 then ((s_Equalb.f k bt560.1 x0).bind fun t564 => (if t564 = true then (some (x7, 0)) else (some (([] : List ByteArray), 3)))) else (some (([] : List ByteArray), 3))))
end
def q_DecodeTexts.f (k : Nat) (l0 : List Int) : Option (List ByteArray × Int) := if (l0.length : Int) > 500000 then (some (([] : List ByteArray), 2)) else ((q_reader_byte.f l0 false).bind fun bt549 => ((q_reader_count.f k bt549.2.1 bt549.2.2).bind fun bt552 => (if bt552.2.2 = true then (q_DecodeTexts.j0 k l0 bt549.1 bt552.1 true bt552.2.1 bt552.2.2) else (q_DecodeTexts.j0 k l0 bt549.1 bt552.1 (decide (bt552.1 > 2000)) bt552.2.1 bt552.2.2))))
theorem q_DecodeTexts.mono_l : ∀ k, (∀ y0 y1 y2 y3 y4 y5, LeO (q_DecodeTexts.j0 k y0 y1 y2 y3 y4 y5) (q_DecodeTexts.j0 (k + 1) y0 y1 y2 y3 y4 y5)) ∧ (∀ y0 y1 y2 y3 y4, LeO (q_DecodeTexts.j1 k y0 y1 y2 y3 y4) (q_DecodeTexts.j1 (k + 1) y0 y1 y2 y3 y4))
 | 0 => ⟨fun _ _ _ _ _ _ r h => by simp [q_DecodeTexts.j0] at h, fun _ _ _ _ _ r h => by simp [q_DecodeTexts.j1] at h⟩
 | k + 1 => by
  obtain ⟨ih0, ih1⟩ := q_DecodeTexts.mono_l k
  refine ⟨?_, ?_⟩ <;> intros
  all_goals (first | unfold q_DecodeTexts.j0 | unfold q_DecodeTexts.j1)
  all_goals
   repeat' first
   | (with_reducible exact ih1 _ _ _ _ _)
   | (with_reducible exact q_EncodeTexts.mono _ _ _)
   | (with_reducible exact q_reader_texts.mono _ _ _ _ _)
   | (with_reducible exact s_Equalb.mono _ _ _)
   | (with_reducible exact LeO.refl _)
   | (with_reducible refine LeO.ite ?_ ?_)
   | (with_reducible refine LeO.bind ?_ (fun _ => ?_))
theorem q_DecodeTexts.mono : ∀ a0 k, LeO (q_DecodeTexts.f k a0) (q_DecodeTexts.f (k + 1) a0) := by
 intro a0 k
 obtain ⟨ih0, ih1⟩ := q_DecodeTexts.mono_l k
 unfold q_DecodeTexts.f
 repeat' first
  | (with_reducible exact ih0 _ _ _ _ _ _)
  | (with_reducible exact q_reader_count.mono _ _ _)
  | (with_reducible exact LeO.refl _)
  | (with_reducible refine LeO.ite ?_ ?_)
  | (with_reducible refine LeO.bind ?_ (fun _ => ?_))
set_option maxHeartbeats 8000000 in
set_option maxRecDepth 100000 in
theorem q_DecodeTexts.calls (k : Nat) (A0 : Option Addr) (c0 : Nat) (l0 : List Int) (r1 : List ByteArray) (r2 : Int) (w : World) (hr0 : Kd.C (Kd.int .u8) w A0 l0.length l0) (hc0 : l0.length ≤ c0) (h : q_DecodeTexts.f k l0 = some (r1, r2)) :
 Calls Try.prog 47 #[.slice A0 l0.length c0] w fun e w' => ∃ v0_ : Value, e = .returned (.tuple #[v0_, .int .i64 r2]) ∧ Kd.R Kd.string 9 w' w.heap.size (fun _ => True) v0_ r1 ∧ Below w.heap.size w w' := by
 have hu75 := Try.underlying75
 have HR0 := Ak hr0
 have HC0 := Ak hc0
 clear hr0 hc0
 have HB := Ak (Below.refl w.heap.size w)
 have H : (if (l0.length : Int) > 500000 then (some (([] : List ByteArray), 2)) else ((q_reader_byte.f l0 false).bind fun bt549 => ((q_reader_count.f k bt549.2.1 bt549.2.2).bind fun bt552 => (if bt552.2.2 = true then (q_DecodeTexts.j0 k l0 bt549.1 bt552.1 true bt552.2.1 bt552.2.2) else (q_DecodeTexts.j0 k l0 bt549.1 bt552.1 (decide (bt552.1 > 2000)) bt552.2.1 bt552.2.2))))) = some (r1, r2) := h
 clear h
 by_cases c2 : (l0.length : Int) > 500000
 ·rw [if_pos c2] at H
  have c2b0 : decide (500000 < (l0.length : Int)) = true := decide_eq_true c2
  have c2b1 : decide (500000 < l0.length) = true := decide_eq_true (by omega)
  clear c2
  simp only [Option.some.injEq, Prod.mk.injEq] at H
  obtain ⟨rfl, rfl⟩ := H
  go_enter Try.func47, Try.ntmps47
  go_wp2
  go_ret2
  exact ⟨_, by rfl, by exact Kd.R_nil _ _ _ _ _, by exact HB.out⟩
 ·rw [if_neg c2] at H
  have c2b0 : decide (500000 < (l0.length : Int)) = false := decide_eq_false c2
  have c2b1 : decide (500000 < l0.length) = false := decide_eq_false (by omega)
  clear c2
  replace H := Option.bind_eq_some_iff.mp H
  obtain ⟨⟨t549, t550, t551⟩, A30, H⟩ := H
  replace H : ((q_reader_count.f k t550 t551).bind fun bt552 => (if bt552.2.2 = true then (q_DecodeTexts.j0 k l0 t549 bt552.1 true bt552.2.1 bt552.2.2) else (q_DecodeTexts.j0 k l0 t549 bt552.1 (decide (bt552.1 > 2000)) bt552.2.1 bt552.2.2))) = some (r1, r2) := H
  have A3 := Ak A30
  clear A30
  replace H := Option.bind_eq_some_iff.mp H
  obtain ⟨⟨t552, t553, t554⟩, A40, H⟩ := H
  replace H : (if t554 = true then (q_DecodeTexts.j0 k l0 t549 t552 true t553 t554) else (q_DecodeTexts.j0 k l0 t549 t552 (decide (t552 > 2000)) t553 t554)) = some (r1, r2) := H
  have A4 := Ak A40
  clear A40
  have HC5 := Ak H
  clear H
  go_enter Try.func47, Try.ntmps47
  go_upto_region 5 with (first | ((with_reducible refine gate_dst (N := 15) rfl ?_); refine box_event ?hg (N := 15) ?hd (cs := #[.slice A0 l0.length c0, .bool false]) (t := 75) ?hr ?_; (case hd => rfl); (case hg => rfl); (case hr => (go_simp; done)); intro gb548 hg w6 hbox hb; have n0_ := Ak (below_step (by exact HB.out) hb); have n1_ := Ak ((by rw [hg]; exact (below_size (by exact HB.out)) : w.heap.size ≤ gb548)); have n2_ := Ak ((by rw [hg]; exact (below_size (by exact HB.out)) : w.heap.size ≤ gb548)); have n3_ := Ak ((show IsS75 w w6 gb548 l0 false from ⟨_, _, hbox, (by rw [hg]; exact (below_size (by exact HB.out)) : w.heap.size ≤ gb548), ⟨HC0.out, HR0.out⟩⟩)); clear HB; have HB := n0_; have GW548 := n1_; have GE548 := n2_; have HI548 := n3_; clear n0_ n1_ n2_ n3_ hb hbox hg) | ((with_reducible refine gate_callee (f := 59) rfl ?_); refine goesL_ (some 17) rfl rfl Try.func59 (by kernel_rfl) rfl #[.pointer (some ⟨gb548, 0, none⟩)] rfl (by (try simp only [lm]); rfl) ?_; (with_reducible refine (q_reader_byte.calls gb548 l0 false t549 t550 t551 w _ ?side1 ?side2 A3.out).mono ?_); (case side1 => exact HI548.out); (case side2 => exact HB.out); rintro e w7 ⟨rfl, hi, hb, hk⟩; refine ⟨_, rfl, ?_⟩; have n0_ := Ak (hb); have n1_ := Ak (hi); clear HB HI548; have HB := n0_; have HI548 := n1_; clear n0_ n1_; (try clear hb); (try clear hk); (try clear hi)) | ((with_reducible refine gate_callee (f := 60) rfl ?_); refine goesL_ (some 19) rfl rfl Try.func60 (by kernel_rfl) rfl #[.pointer (some ⟨gb548, 0, none⟩)] rfl (by (try simp only [lm]); rfl) ?_; (with_reducible refine (q_reader_count.calls k gb548 t550 t551 t552 t553 t554 w _ ?side1 ?side2 A4.out).mono ?_); (case side1 => exact HI548.out); (case side2 => exact HB.out); rintro e w8 ⟨rfl, hi, hb, hk⟩; refine ⟨_, rfl, ?_⟩; have n0_ := Ak (hb); have n1_ := Ak (hi); clear HB HI548; have HB := n0_; have HI548 := n1_; clear n0_ n1_; (try clear hb); (try clear hk); (try clear hi)))
  (try simp only [Act.put, List.setIfInBounds_toArray, List.set_cons_zero, List.set_cons_succ])
  go_cut [27] (fun v27 wc => ∃ (kq : Nat) (x27_4 : Bool), v27 = .bool x27_4 ∧ Aside0 (q_DecodeTexts.j0 kq l0 t549 t552 x27_4 t553 t554 = some (r1, r2)) ∧ Aside0 (kq ≤ k) ∧ Aside0 (IsS75 w wc gb548 t553 t554) ∧ Aside0 (Below w.heap.size w wc))
  case first =>
   have H := HC5.out
   clear HC5
   by_cases c9 : t554 = true
   ·subst c9
    replace H : (q_DecodeTexts.j0 k l0 t549 t552 true t553 true) = some (r1, r2) := by rw [if_pos rfl] at H; exact H
    have H' := Ak H
    clear H
    obtain ⟨ASz10_0, cSz10_0, HGz10, hgz10, HSz10_0⟩ := HI548.out
    have hcz10_0 := cellS75_0 HGz10
    have hcz10_1 := cellS75_1 HGz10
    have hfz10_0 := blk_frozen HGz10 0
    have hfz10_1 := blk_frozen HGz10 1
    have HCSz10_0 := HSz10_0.1
    replace HSz10_0 := HSz10_0.2
    clear HGz10 hgz10
    go_wp2
    go_meet
    case rel => exact ⟨_, (true), (by rfl), H', ⟨by omega⟩, ⟨by exact HI548.out⟩, ⟨by exact HB.out⟩⟩
   ·replace c9 := Bool.eq_false_iff.mpr c9
    subst c9
    replace H : (q_DecodeTexts.j0 k l0 t549 t552 (decide (t552 > 2000)) t553 false) = some (r1, r2) := by rw [if_neg (show ¬ (false = true) by decide)] at H; exact H
    have H' := Ak H
    clear H
    obtain ⟨ASz11_0, cSz11_0, HGz11, hgz11, HSz11_0⟩ := HI548.out
    have hcz11_0 := cellS75_0 HGz11
    have hcz11_1 := cellS75_1 HGz11
    have hfz11_0 := blk_frozen HGz11 0
    have hfz11_1 := blk_frozen HGz11 1
    have HCSz11_0 := HSz11_0.1
    replace HSz11_0 := HSz11_0.2
    clear HGz11 hgz11
    go_wp2
    go_meet
    case rel => exact ⟨_, (decide (t552 > 2000)), (by rfl), H', ⟨by omega⟩, ⟨by exact HI548.out⟩, ⟨by exact HB.out⟩⟩
  case rest =>
   clear HC5
   try clear c2b0
   try clear c2b1
   obtain ⟨kq, x27_4, rfl, HA, HJ4, HI548, HB⟩ := hcut
   cases kq with
   | zero => exact absurd HA.out (by simp [q_DecodeTexts.j0])
   | succ kj4 =>
    have H := HA.out
    clear HA
    simp only [q_DecodeTexts.j0] at H
    by_cases c12 : x27_4 = true
    ·subst c12
     replace H : (some (([] : List ByteArray), 3)) = some (r1, r2) := by rw [if_pos rfl] at H; exact H
     simp only [Option.some.injEq, Prod.mk.injEq] at H
     obtain ⟨rfl, rfl⟩ := H
     go_wp2
     go_ret2
     exact ⟨_, by rfl, by exact Kd.R_nil _ _ _ _ _, by exact HB.out⟩
    ·replace c12 := Bool.eq_false_iff.mpr c12
     subst c12
     replace H : (if t552 > 0 then ((q_reader_texts.f kj4 t553 t554 t549 t552).bind fun bt555 => (q_DecodeTexts.j1 kj4 l0 t549 bt555.1 bt555.2.1 bt555.2.2)) else (q_DecodeTexts.j1 kj4 l0 t549 ([] : List ByteArray) t553 t554)) = some (r1, r2) := by rw [if_neg (show ¬ (false = true) by decide)] at H; exact H
     have HC13 := Ak H
     clear H
     go_upto_if 29 with (fail)
     go_cut [7] (fun v7 wc => ∃ (kq : Nat) (x7_12 : List ByteArray) (x549000_12 : List Int) (x549001_12 : Bool), Aside0 (q_DecodeTexts.j1 kq l0 t549 x7_12 x549000_12 x549001_12 = some (r1, r2)) ∧ Aside0 (kq ≤ kj4) ∧ Aside0 (Kd.R Kd.string 9 wc w.heap.size (fun _ => True) v7 x7_12) ∧ Aside0 (IsS75 w wc gb548 x549000_12 x549001_12) ∧ Aside0 (Below w.heap.size w wc))
     case first =>
      have H := HC13.out
      clear HC13
      by_cases c14 : t552 > 0
      ·rw [if_pos c14] at H
       have c14b0 : decide (0 < t552) = true := decide_eq_true c14
       clear c14
       (rw [c14b0])
       (try rw [c14b1])
       replace H := Option.bind_eq_some_iff.mp H
       obtain ⟨⟨t555, t558, t559⟩, A150, H⟩ := H
       replace H : (q_DecodeTexts.j1 kj4 l0 t549 t555 t558 t559) = some (r1, r2) := H
       have A15 := Ak A150
       clear A150
       have H' := Ak H
       clear H
       go_wp2_with (first | ((with_reducible refine gate_callee (f := 73) rfl ?_); refine goesL_ (some 33) rfl rfl Try.func73 (by kernel_rfl) rfl #[.pointer (some ⟨gb548, 0, none⟩), .int .i64 t549, .int .i64 t552] rfl (by (try simp only [lm]); rfl) ?_; (with_reducible refine (q_reader_texts.calls kj4 gb548 t553 t554 t549 t552 t555 t558 t559 w _ ?side1 ?side2 A15.out).mono ?_); (case side1 => exact HI548.out); (case side2 => exact HB.out); rintro e w16 ⟨v556, rfl, ho0, hi, hb, hk⟩; refine ⟨_, rfl, ?_⟩; have n0_ := Ak (Kd.R_lower ho0 (below_size (by exact HB.out))); have n1_ := Ak (hb); have n2_ := Ak (hi); clear HB HI548; have HO557 := n0_; have HB := n1_; have HI548 := n2_; clear n0_ n1_ n2_; (try clear hb); (try clear hk); (try clear hi); (try clear ho0)))
       go_meet
       case rel => exact ⟨_, (t555), (t558), (t559), H', ⟨by have := HJ4.out; omega⟩, ⟨by exact HO557.out⟩, ⟨by exact HI548.out⟩, ⟨by exact HB.out⟩⟩
      ·rw [if_neg c14] at H
       have c14b0 : decide (0 < t552) = false := decide_eq_false c14
       clear c14
       (rw [c14b0])
       (try rw [c14b1])
       have H' := Ak H
       clear H
       go_wp2
       go_meet
       case rel => exact ⟨_, (([] : List ByteArray)), (t553), (t554), H', ⟨by have := HJ4.out; omega⟩, ⟨by exact Kd.R_nil _ _ _ _ _⟩, ⟨by exact HI548.out⟩, ⟨by exact HB.out⟩⟩
     case rest =>
      clear HC13
      obtain ⟨kq, x7_12, x549000_12, x549001_12, HA, HJ12, HO_7, HI548, HB⟩ := hcut
      cases kq with
      | zero => exact absurd HA.out (by simp [q_DecodeTexts.j1])
      | succ kj12 =>
       have H := HA.out
       clear HA
       simp only [q_DecodeTexts.j1] at H
       by_cases c17 : x549001_12 = true
       ·subst c17
        replace H : (some (([] : List ByteArray), 3)) = some (r1, r2) := by rw [if_pos rfl] at H; exact H
        simp only [Option.some.injEq, Prod.mk.injEq] at H
        obtain ⟨rfl, rfl⟩ := H
        obtain ⟨ASz18_0, cSz18_0, HGz18, hgz18, HSz18_0⟩ := HI548.out
        have hcz18_0 := cellS75_0 HGz18
        have hcz18_1 := cellS75_1 HGz18
        have hfz18_0 := blk_frozen HGz18 0
        have hfz18_1 := blk_frozen HGz18 1
        have HCSz18_0 := HSz18_0.1
        replace HSz18_0 := HSz18_0.2
        clear HGz18 hgz18
        go_wp2
        go_ret2
        exact ⟨_, by rfl, by exact Kd.R_nil _ _ _ _ _, by exact HB.out⟩
       ·replace c17 := Bool.eq_false_iff.mpr c17
        subst c17
        replace H : ((q_EncodeTexts.f kj12 t549 x7_12).bind fun bt560 => (if bt560.2 = 0 then ((s_Equalb.f kj12 bt560.1 l0).bind fun t564 => (if t564 = true then (some (x7_12, 0)) else (some (([] : List ByteArray), 3)))) else (some (([] : List ByteArray), 3)))) = some (r1, r2) := by rw [if_neg (show ¬ (false = true) by decide)] at H; exact H
        replace H := Option.bind_eq_some_iff.mp H
        obtain ⟨⟨t560, t561⟩, A190, H⟩ := H
        replace H : (if t561 = 0 then ((s_Equalb.f kj12 t560 l0).bind fun t564 => (if t564 = true then (some (x7_12, 0)) else (some (([] : List ByteArray), 3)))) else (some (([] : List ByteArray), 3))) = some (r1, r2) := H
        have A19 := Ak A190
        clear A190
        by_cases c20 : t561 = 0
        ·rw [if_pos c20] at H
         have c20b0 : (t561 == 0) = true := beq_iff_eq.mpr c20
         have c20b1 : (t561 != 0) = false := bne_eq_false_iff_eq.mpr c20
         clear c20
         replace H := Option.bind_eq_some_iff.mp H
         obtain ⟨t564, A210, H⟩ := H
         replace H : (if t564 = true then (some (x7_12, 0)) else (some (([] : List ByteArray), 3))) = some (r1, r2) := H
         have A21 := Ak A210
         clear A210
         by_cases c22 : t564 = true
         ·subst c22
          replace H : (some (x7_12, 0)) = some (r1, r2) := by rw [if_pos rfl] at H; exact H
          simp only [Option.some.injEq, Prod.mk.injEq] at H
          obtain ⟨rfl, rfl⟩ := H
          obtain ⟨ASz23_0, cSz23_0, HGz23, hgz23, HSz23_0⟩ := HI548.out
          have hcz23_0 := cellS75_0 HGz23
          have hcz23_1 := cellS75_1 HGz23
          have hfz23_0 := blk_frozen HGz23 0
          have hfz23_1 := blk_frozen HGz23 1
          have HCSz23_0 := HSz23_0.1
          replace HSz23_0 := HSz23_0.2
          clear HGz23 hgz23
          obtain ⟨Ao24, co24, eo24⟩ := Kd.R_slice HO_7.out
          subst eo24
          go_wp2_with (first | ((with_reducible refine gate_callee (f := 44) rfl ?_); refine goesL_ (some 41) rfl rfl Try.func44 (by kernel_rfl) rfl #[.int .i64 t549, .slice Ao24 x7_12.length co24] rfl (by (try simp only [lm]); rfl) ?_; (with_reducible refine (q_EncodeTexts.calls kj12 t549 _ _ x7_12 t560 t561 _ ?side1 ?side2 A19.out).mono ?_); (case side1 => repeat (exact (Kd.R_reads' HO_7.out).2.2)); (case side2 => exact (Kd.R_reads' HO_7.out).2.1); rintro e w25 ⟨v562, rfl, ho0, hb⟩; refine ⟨_, rfl, ?_⟩; have n0_ := Ak (Kd.R_below (by exact HO_7.out) hb); have n1_ := Ak (Kd.R_lower ho0 (below_size (by exact HB.out))); have n2_ := Ak (IsS75.below (by exact HI548.out) hb); have n3_ := Ak (below_step (by exact HB.out) hb); clear HO_7 HI548 HB; have HO_7 := n0_; have HO563 := n1_; have HI548 := n2_; have HB := n3_; clear n0_ n1_ n2_ n3_; (try clear hb); (try clear ho0); obtain ⟨Ao26, co26, eo26⟩ := Kd.R_slice HO563.out; subst eo26) | (go_at_call 17; (with_reducible refine (s_Equalb.calls kj12 _ _ t560 _ _ l0 true _ ?side1 ?side2 ?side3 ?side4 A21.out).mono ?_); (case side1 => repeat (exact (Kd.R_reads' HO563.out).2.2)); (case side2 => exact (Kd.R_reads' HO563.out).2.1); (case side3 => repeat (exact (Kd.C_below HR0.out HB.out))); (case side4 => exact HC0.out); rintro e w' ⟨rfl, ⟨nd, rfl⟩⟩))
          go_ret2
          exact ⟨_, by rfl, by (with_reducible repeat (apply Kd.R_drewN)); exact HO_7.out, by repeat ((with_reducible first | exact HB.out | apply pw_below_drewN ))⟩
         ·replace c22 := Bool.eq_false_iff.mpr c22
          subst c22
          replace H : (some (([] : List ByteArray), 3)) = some (r1, r2) := by rw [if_neg (show ¬ (false = true) by decide)] at H; exact H
          simp only [Option.some.injEq, Prod.mk.injEq] at H
          obtain ⟨rfl, rfl⟩ := H
          obtain ⟨ASz27_0, cSz27_0, HGz27, hgz27, HSz27_0⟩ := HI548.out
          have hcz27_0 := cellS75_0 HGz27
          have hcz27_1 := cellS75_1 HGz27
          have hfz27_0 := blk_frozen HGz27 0
          have hfz27_1 := blk_frozen HGz27 1
          have HCSz27_0 := HSz27_0.1
          replace HSz27_0 := HSz27_0.2
          clear HGz27 hgz27
          obtain ⟨Ao28, co28, eo28⟩ := Kd.R_slice HO_7.out
          subst eo28
          go_wp2_with (first | ((with_reducible refine gate_callee (f := 44) rfl ?_); refine goesL_ (some 41) rfl rfl Try.func44 (by kernel_rfl) rfl #[.int .i64 t549, .slice Ao28 x7_12.length co28] rfl (by (try simp only [lm]); rfl) ?_; (with_reducible refine (q_EncodeTexts.calls kj12 t549 _ _ x7_12 t560 t561 _ ?side1 ?side2 A19.out).mono ?_); (case side1 => repeat (exact (Kd.R_reads' HO_7.out).2.2)); (case side2 => exact (Kd.R_reads' HO_7.out).2.1); rintro e w29 ⟨v562, rfl, ho0, hb⟩; refine ⟨_, rfl, ?_⟩; have n0_ := Ak (Kd.R_below (by exact HO_7.out) hb); have n1_ := Ak (Kd.R_lower ho0 (below_size (by exact HB.out))); have n2_ := Ak (IsS75.below (by exact HI548.out) hb); have n3_ := Ak (below_step (by exact HB.out) hb); clear HO_7 HI548 HB; have HO_7 := n0_; have HO563 := n1_; have HI548 := n2_; have HB := n3_; clear n0_ n1_ n2_ n3_; (try clear hb); (try clear ho0); obtain ⟨Ao30, co30, eo30⟩ := Kd.R_slice HO563.out; subst eo30) | (go_at_call 17; (with_reducible refine (s_Equalb.calls kj12 _ _ t560 _ _ l0 false _ ?side1 ?side2 ?side3 ?side4 A21.out).mono ?_); (case side1 => repeat (exact (Kd.R_reads' HO563.out).2.2)); (case side2 => exact (Kd.R_reads' HO563.out).2.1); (case side3 => repeat (exact (Kd.C_below HR0.out HB.out))); (case side4 => exact HC0.out); rintro e w' ⟨rfl, ⟨nd, rfl⟩⟩))
          go_ret2
          exact ⟨_, by rfl, by exact Kd.R_nil _ _ _ _ _, by repeat ((with_reducible first | exact HB.out | apply pw_below_drewN ))⟩
        ·rw [if_neg c20] at H
         have c20b0 : (t561 == 0) = false := beq_eq_false_iff_ne.mpr c20
         have c20b1 : (t561 != 0) = true := bne_iff_ne.mpr c20
         simp only [Option.some.injEq, Prod.mk.injEq] at H
         obtain ⟨rfl, rfl⟩ := H
         obtain ⟨ASz31_0, cSz31_0, HGz31, hgz31, HSz31_0⟩ := HI548.out
         have hcz31_0 := cellS75_0 HGz31
         have hcz31_1 := cellS75_1 HGz31
         have hfz31_0 := blk_frozen HGz31 0
         have hfz31_1 := blk_frozen HGz31 1
         have HCSz31_0 := HSz31_0.1
         replace HSz31_0 := HSz31_0.2
         clear HGz31 hgz31
         obtain ⟨Ao32, co32, eo32⟩ := Kd.R_slice HO_7.out
         subst eo32
         go_wp2_with (first | ((with_reducible refine gate_callee (f := 44) rfl ?_); refine goesL_ (some 41) rfl rfl Try.func44 (by kernel_rfl) rfl #[.int .i64 t549, .slice Ao32 x7_12.length co32] rfl (by (try simp only [lm]); rfl) ?_; (with_reducible refine (q_EncodeTexts.calls kj12 t549 _ _ x7_12 t560 t561 _ ?side1 ?side2 A19.out).mono ?_); (case side1 => repeat (exact (Kd.R_reads' HO_7.out).2.2)); (case side2 => exact (Kd.R_reads' HO_7.out).2.1); rintro e w33 ⟨v562, rfl, ho0, hb⟩; refine ⟨_, rfl, ?_⟩; have n0_ := Ak (Kd.R_below (by exact HO_7.out) hb); have n1_ := Ak (Kd.R_lower ho0 (below_size (by exact HB.out))); have n2_ := Ak (IsS75.below (by exact HI548.out) hb); have n3_ := Ak (below_step (by exact HB.out) hb); clear HO_7 HI548 HB; have HO_7 := n0_; have HO563 := n1_; have HI548 := n2_; have HB := n3_; clear n0_ n1_ n2_ n3_; (try clear hb); (try clear ho0)))
         go_ret2
         exact ⟨_, by rfl, by exact Kd.R_nil _ _ _ _ _, by exact HB.out⟩
def q_TextAt.f (k : Nat) (l0 : List Int) (a1 : Int) : Option (ByteArray × Int) := (q_DecodeTexts.f k l0).bind fun bt565 => (if bt565.2 = 0 then (if a1 < 0 then (some ((⟨#[]⟩ : ByteArray), 1)) else (if a1 ≥ (bt565.1.length : Int) then (some ((⟨#[]⟩ : ByteArray), 1)) else (if 0 ≤ a1 then (if a1 < (bt565.1.length : Int) then (some (rdOf ByteArray.empty bt565.1 a1, 0)) else (none)) else (none)))) else (some ((⟨#[]⟩ : ByteArray), bt565.2)))
theorem q_TextAt.mono : ∀ a0 a1 k, LeO (q_TextAt.f k a0 a1) (q_TextAt.f (k + 1) a0 a1) := by
 intro a0 a1 k
 unfold q_TextAt.f
 repeat' first
  | (with_reducible exact q_DecodeTexts.mono _ _)
  | (with_reducible exact LeO.refl _)
  | (with_reducible refine LeO.bind ?_ (fun _ => ?_))
set_option maxHeartbeats 8000000 in
set_option maxRecDepth 100000 in
theorem q_TextAt.calls (k : Nat) (A0 : Option Addr) (c0 : Nat) (l0 : List Int) (a1 : Int) (r1 : ByteArray) (r2 : Int) (w : World) (hr0 : Kd.C (Kd.int .u8) w A0 l0.length l0) (hc0 : l0.length ≤ c0) (h : q_TextAt.f k l0 a1 = some (r1, r2)) :
 Calls Try.prog 48 #[.slice A0 l0.length c0, .int .i64 a1] w fun e w' => e = .returned (.tuple #[.string r1, .int .i64 r2]) ∧ Below w.heap.size w w' := by
 have HR0 := Ak hr0
 have HC0 := Ak hc0
 clear hr0 hc0
 have HB := Ak (Below.refl w.heap.size w)
 have H : ((q_DecodeTexts.f k l0).bind fun bt565 => (if bt565.2 = 0 then (if a1 < 0 then (some ((⟨#[]⟩ : ByteArray), 1)) else (if a1 ≥ (bt565.1.length : Int) then (some ((⟨#[]⟩ : ByteArray), 1)) else (if 0 ≤ a1 then (if a1 < (bt565.1.length : Int) then (some (rdOf ByteArray.empty bt565.1 a1, 0)) else (none)) else (none)))) else (some ((⟨#[]⟩ : ByteArray), bt565.2)))) = some (r1, r2) := h
 clear h
 replace H := Option.bind_eq_some_iff.mp H
 obtain ⟨⟨t565, t566⟩, A30, H⟩ := H
 replace H : (if t566 = 0 then (if a1 < 0 then (some ((⟨#[]⟩ : ByteArray), 1)) else (if a1 ≥ (t565.length : Int) then (some ((⟨#[]⟩ : ByteArray), 1)) else (if 0 ≤ a1 then (if a1 < (t565.length : Int) then (some (rdOf ByteArray.empty t565 a1, 0)) else (none)) else (none)))) else (some ((⟨#[]⟩ : ByteArray), t566))) = some (r1, r2) := H
 have A3 := Ak A30
 clear A30
 by_cases c4 : t566 = 0
 ·rw [if_pos c4] at H
  have c4b0 : (t566 == 0) = true := beq_iff_eq.mpr c4
  have c4b1 : (t566 != 0) = false := bne_eq_false_iff_eq.mpr c4
  clear c4
  by_cases c5 : a1 < 0
  ·rw [if_pos c5] at H
   have c5b0 : decide (a1 < 0) = true := decide_eq_true c5
   clear c5
   simp only [Option.some.injEq, Prod.mk.injEq] at H
   obtain ⟨rfl, rfl⟩ := H
   go_enter Try.func48, Try.ntmps48
   go_wp2_with (first | ((with_reducible refine gate_callee (f := 47) rfl ?_); refine goesL_ (some 10) rfl rfl Try.func47 (by kernel_rfl) rfl #[.slice A0 l0.length c0] rfl (by (try simp only [lm]); rfl) ?_; (with_reducible refine (q_DecodeTexts.calls k _ _ l0 t565 t566 _ ?side1 ?side2 A3.out).mono ?_); (case side1 => repeat (exact HR0.out)); (case side2 => exact HC0.out); rintro e w6 ⟨v567, rfl, ho0, hb⟩; refine ⟨_, rfl, ?_⟩; have n0_ := Ak (Kd.R_lower ho0 (below_size (by exact HB.out))); have n1_ := Ak (below_step (by exact HB.out) hb); clear HB; have HO568 := n0_; have HB := n1_; clear n0_ n1_; (try clear hb); (try clear ho0)))
   go_ret2
   exact ⟨by rfl, by exact HB.out⟩
  ·rw [if_neg c5] at H
   have c5b0 : decide (a1 < 0) = false := decide_eq_false c5
   clear c5
   by_cases c7 : a1 ≥ (t565.length : Int)
   ·rw [if_pos c7] at H
    have c7b0 : decide ((t565.length : Int) ≤ a1) = true := decide_eq_true c7
    clear c7
    simp only [Option.some.injEq, Prod.mk.injEq] at H
    obtain ⟨rfl, rfl⟩ := H
    go_enter Try.func48, Try.ntmps48
    go_wp2_with (first | ((with_reducible refine gate_callee (f := 47) rfl ?_); refine goesL_ (some 10) rfl rfl Try.func47 (by kernel_rfl) rfl #[.slice A0 l0.length c0] rfl (by (try simp only [lm]); rfl) ?_; (with_reducible refine (q_DecodeTexts.calls k _ _ l0 t565 t566 _ ?side1 ?side2 A3.out).mono ?_); (case side1 => repeat (exact HR0.out)); (case side2 => exact HC0.out); rintro e w8 ⟨v567, rfl, ho0, hb⟩; refine ⟨_, rfl, ?_⟩; have n0_ := Ak (Kd.R_lower ho0 (below_size (by exact HB.out))); have n1_ := Ak (below_step (by exact HB.out) hb); clear HB; have HO568 := n0_; have HB := n1_; clear n0_ n1_; (try clear hb); (try clear ho0); obtain ⟨Ao9, co9, eo9⟩ := Kd.R_slice HO568.out; subst eo9))
    go_ret2
    exact ⟨by rfl, by exact HB.out⟩
   ·rw [if_neg c7] at H
    have c7b0 : decide ((t565.length : Int) ≤ a1) = false := decide_eq_false c7
    clear c7
    by_cases c10 : 0 ≤ a1
    ·rw [if_pos c10] at H
     have c10b0 : decide (0 ≤ a1) = true := decide_eq_true c10
     clear c10
     by_cases c11 : a1 < (t565.length : Int)
     ·rw [if_pos c11] at H
      have c11b0 : decide (a1 < (t565.length : Int)) = true := decide_eq_true c11
      clear c11
      simp only [Option.some.injEq, Prod.mk.injEq] at H
      obtain ⟨rfl, rfl⟩ := H
      go_enter Try.func48, Try.ntmps48
      go_wp2_with (first | ((with_reducible refine gate_callee (f := 47) rfl ?_); refine goesL_ (some 10) rfl rfl Try.func47 (by kernel_rfl) rfl #[.slice A0 l0.length c0] rfl (by (try simp only [lm]); rfl) ?_; (with_reducible refine (q_DecodeTexts.calls k _ _ l0 t565 t566 _ ?side1 ?side2 A3.out).mono ?_); (case side1 => repeat (exact HR0.out)); (case side2 => exact HC0.out); rintro e w12 ⟨v567, rfl, ho0, hb⟩; refine ⟨_, rfl, ?_⟩; have n0_ := Ak (Kd.R_lower ho0 (below_size (by exact HB.out))); have n1_ := Ak (below_step (by exact HB.out) hb); clear HB; have HO568 := n0_; have HB := n1_; clear n0_ n1_; (try clear hb); (try clear ho0); obtain ⟨Ao13, co13, eo13⟩ := Kd.R_slice HO568.out; subst eo13; have p569 : 0 ≤ (a1 : Int) := of_decide_eq_true (by (with_reducible assumption)); have q569 : a1 < (t565.length : Int) := of_decide_eq_true (by (with_reducible assumption)); obtain ⟨ad569, e569, hx569_0⟩ := Kd.at_string (Kd.R_reads' HO568.out).2.2 a1 p569 q569; cases e569; replace p569 := eq_true p569; replace q569 := eq_true q569))
      go_ret2
      exact ⟨by rfl, by exact HB.out⟩
     ·rw [if_neg c11] at H
      exact absurd H (by simp)
    ·rw [if_neg c10] at H
     exact absurd H (by simp)
 ·rw [if_neg c4] at H
  have c4b0 : (t566 == 0) = false := beq_eq_false_iff_ne.mpr c4
  have c4b1 : (t566 != 0) = true := bne_iff_ne.mpr c4
  simp only [Option.some.injEq, Prod.mk.injEq] at H
  obtain ⟨rfl, rfl⟩ := H
  go_enter Try.func48, Try.ntmps48
  go_wp2_with (first | ((with_reducible refine gate_callee (f := 47) rfl ?_); refine goesL_ (some 10) rfl rfl Try.func47 (by kernel_rfl) rfl #[.slice A0 l0.length c0] rfl (by (try simp only [lm]); rfl) ?_; (with_reducible refine (q_DecodeTexts.calls k _ _ l0 t565 t566 _ ?side1 ?side2 A3.out).mono ?_); (case side1 => repeat (exact HR0.out)); (case side2 => exact HC0.out); rintro e w14 ⟨v567, rfl, ho0, hb⟩; refine ⟨_, rfl, ?_⟩; have n0_ := Ak (Kd.R_lower ho0 (below_size (by exact HB.out))); have n1_ := Ak (below_step (by exact HB.out) hb); clear HB; have HO568 := n0_; have HB := n1_; clear n0_ n1_; (try clear hb); (try clear ho0)))
  go_ret2
  exact ⟨by rfl, by exact HB.out⟩
def q_WhereText.l0 : Nat → ByteArray → ByteArray → List ByteArray → List Int → Int → Int → Option (List Int × Int)
 | 0, _, _, _, _, _, _ => none
 | k + 1, x1, x2, x8, x10, x25, x26 => if x26 < x25 then (if 0 ≤ x26 then (if x26 < (x8.length : Int) then (if ((Op.bytesLess ((rdOf ByteArray.empty x8 x26).toList) x1.toList) = true) then (q_WhereText.l0 k x1 x2 x8 x10 x25 (wrap64 (x26 + 1))) else (if ((Op.bytesLess x2.toList ((rdOf ByteArray.empty x8 x26).toList)) = true) then (q_WhereText.l0 k x1 x2 x8 x10 x25 (wrap64 (x26 + 1))) else (if x10.length < 17592186044416 then (q_WhereText.l0 k x1 x2 x8 (x10 ++ [x26]) x25 (wrap64 (x26 + 1))) else (none)))) else (none)) else (none)) else (some (x10, 0))
def q_WhereText.f (k : Nat) (l0 : List Int) (a1 : ByteArray) (a2 : ByteArray) : Option (List Int × Int) := (q_DecodeTexts.f k l0).bind fun bt570 => (if bt570.2 = 0 then (if (Op.bytesLess a2.toList a1.toList) = true then (some (([] : List Int), 8)) else (q_WhereText.l0 k a1 a2 bt570.1 ([] : List Int) (bt570.1.length : Int) 0)) else (some (([] : List Int), bt570.2)))
theorem q_WhereText.mono_l : ∀ k, (∀ y0 y1 y2 y3 y4 y5, LeO (q_WhereText.l0 k y0 y1 y2 y3 y4 y5) (q_WhereText.l0 (k + 1) y0 y1 y2 y3 y4 y5))
 | 0 => fun _ _ _ _ _ _ r h => by simp [q_WhereText.l0] at h
 | k + 1 => by
  have ih0 := q_WhereText.mono_l k
  ·intro y0 y1 y2 y3 y4 y5
   unfold q_WhereText.l0
   repeat' first
   | (with_reducible exact ih0 _ _ _ _ _ _)
   | (with_reducible exact LeO.refl _)
   | (with_reducible refine LeO.ite ?_ ?_)
theorem q_WhereText.mono : ∀ a0 a1 a2 k, LeO (q_WhereText.f k a0 a1 a2) (q_WhereText.f (k + 1) a0 a1 a2) := by
 intro a0 a1 a2 k
 have ih0 := q_WhereText.mono_l k
 unfold q_WhereText.f
 repeat' first
  | (with_reducible exact ih0 _ _ _ _ _ _)
  | (with_reducible exact q_DecodeTexts.mono _ _)
  | (with_reducible exact LeO.refl _)
  | (with_reducible refine LeO.ite ?_ ?_)
  | (with_reducible refine LeO.bind ?_ (fun _ => ?_))
set_option maxHeartbeats 8000000 in
set_option maxRecDepth 100000 in
theorem q_WhereText.calls (k : Nat) (A0 : Option Addr) (c0 : Nat) (l0 : List Int) (a1 : ByteArray) (a2 : ByteArray) (r1 : List Int) (r2 : Int) (w : World) (hr0 : Kd.C (Kd.int .u8) w A0 l0.length l0) (hc0 : l0.length ≤ c0) (h : q_WhereText.f k l0 a1 a2 = some (r1, r2)) :
 Calls Try.prog 49 #[.slice A0 l0.length c0, .string a1, .string a2] w fun e w' => ∃ v0_ : Value, e = .returned (.tuple #[v0_, .int .i64 r2]) ∧ Kd.R (Kd.int .i64) 3 w' w.heap.size (fun _ => True) v0_ r1 ∧ Below w.heap.size w w' := by
 have HR0 := Ak hr0
 have HC0 := Ak hc0
 clear hr0 hc0
 have HB := Ak (Below.refl w.heap.size w)
 have H : ((q_DecodeTexts.f k l0).bind fun bt570 => (if bt570.2 = 0 then (if (Op.bytesLess a2.toList a1.toList) = true then (some (([] : List Int), 8)) else (q_WhereText.l0 k a1 a2 bt570.1 ([] : List Int) (bt570.1.length : Int) 0)) else (some (([] : List Int), bt570.2)))) = some (r1, r2) := h
 clear h
 replace H := Option.bind_eq_some_iff.mp H
 obtain ⟨⟨t570, t571⟩, A40, H⟩ := H
 replace H : (if t571 = 0 then (if (Op.bytesLess a2.toList a1.toList) = true then (some (([] : List Int), 8)) else (q_WhereText.l0 k a1 a2 t570 ([] : List Int) (t570.length : Int) 0)) else (some (([] : List Int), t571))) = some (r1, r2) := H
 have A4 := Ak A40
 clear A40
 by_cases c5 : t571 = 0
 ·rw [if_pos c5] at H
  have c5b0 : (t571 == 0) = true := beq_iff_eq.mpr c5
  have c5b1 : (t571 != 0) = false := bne_eq_false_iff_eq.mpr c5
  clear c5
  by_cases c6 : (Op.bytesLess a2.toList a1.toList) = true
  ·rw [if_pos c6] at H
   have c6b0 : (Op.bytesLess a2.toList a1.toList) = true := c6
   clear c6
   simp only [Option.some.injEq, Prod.mk.injEq] at H
   obtain ⟨rfl, rfl⟩ := H
   go_enter Try.func49, Try.ntmps49
   go_wp2_with (first | ((with_reducible refine gate_callee (f := 47) rfl ?_); refine goesL_ (some 15) rfl rfl Try.func47 (by kernel_rfl) rfl #[.slice A0 l0.length c0] rfl (by (try simp only [lm]); rfl) ?_; (with_reducible refine (q_DecodeTexts.calls k _ _ l0 t570 t571 _ ?side1 ?side2 A4.out).mono ?_); (case side1 => repeat (exact HR0.out)); (case side2 => exact HC0.out); rintro e w7 ⟨v572, rfl, ho0, hb⟩; refine ⟨_, rfl, ?_⟩; have n0_ := Ak (Kd.R_lower ho0 (below_size (by exact HB.out))); have n1_ := Ak (below_step (by exact HB.out) hb); clear HB; have HO573 := n0_; have HB := n1_; clear n0_ n1_; (try clear hb); (try clear ho0)))
   go_ret2
   exact ⟨_, by rfl, by exact Kd.R_nil _ _ _ _ _, by exact HB.out⟩
  ·rw [if_neg c6] at H
   have c6b0 : (Op.bytesLess a2.toList a1.toList) = false := by simpa using c6
   clear c6
   have H' := Ak H
   clear H
   go_enter Try.func49, Try.ntmps49
   go_wp2_with (first | ((with_reducible refine gate_callee (f := 47) rfl ?_); refine goesL_ (some 15) rfl rfl Try.func47 (by kernel_rfl) rfl #[.slice A0 l0.length c0] rfl (by (try simp only [lm]); rfl) ?_; (with_reducible refine (q_DecodeTexts.calls k _ _ l0 t570 t571 _ ?side1 ?side2 A4.out).mono ?_); (case side1 => repeat (exact HR0.out)); (case side2 => exact HC0.out); rintro e w8 ⟨v572, rfl, ho0, hb⟩; refine ⟨_, rfl, ?_⟩; have n0_ := Ak (Kd.R_lower ho0 (below_size (by exact HB.out))); have n1_ := Ak (below_step (by exact HB.out) hb); clear HB; have HO573 := n0_; have HB := n1_; clear n0_ n1_; (try clear hb); (try clear ho0); obtain ⟨Ao9, co9, eo9⟩ := Kd.R_slice HO573.out; subst eo9))
   go_loopg [10, 26] k (fun kq v10 v26 w' => ∃ (x10_1 : List Int) (x26_1 : Int), v26 = .int .i64 x26_1 ∧ Aside0 (q_WhereText.l0 kq a1 a2 t570 x10_1 (t570.length : Int) x26_1 = some (r1, r2)) ∧ Aside0 (kq ≤ k) ∧ Aside0 (Kd.R Kd.string 9 w' w.heap.size (fun _ => True) (.slice Ao9 t570.length co9) t570) ∧ Aside0 (Kd.R (Kd.int .i64) 3 w' w.heap.size (fun _ => True) v10 x10_1) ∧ Aside0 (Below w.heap.size w w'))
   case atStart => exact ⟨(([] : List Int)), (0), (by rfl), H', ⟨Nat.le_refl _⟩, ⟨by exact HO573.out⟩, ⟨by exact Kd.R_nil _ _ _ _ _⟩, ⟨by exact HB.out⟩⟩
   case round =>
    clear H'
    try clear c5b0
    try clear c5b1
    try clear c6b0
    obtain ⟨x10_1, x26_1, rfl, HA, HK1, HO_8, HO_10, HB⟩ := hrel
    cases gk with
    | zero => exact absurd HA.out (by simp [q_WhereText.l0])
    | succ k1 =>
     have H := HA.out
     clear HA
     simp only [q_WhereText.l0] at H
     by_cases c10 : x26_1 < (t570.length : Int)
     ·rw [if_pos c10] at H
      have c10b0 : decide (x26_1 < (t570.length : Int)) = true := decide_eq_true c10
      clear c10
      by_cases c11 : 0 ≤ x26_1
      ·rw [if_pos c11] at H
       have c11b0 : decide (0 ≤ x26_1) = true := decide_eq_true c11
       clear c11
       by_cases c12 : x26_1 < (t570.length : Int)
       ·rw [if_pos c12] at H
        have c12b0 : decide (x26_1 < (t570.length : Int)) = true := decide_eq_true c12
        clear c12
        by_cases c13 : ((Op.bytesLess ((rdOf ByteArray.empty t570 x26_1).toList) a1.toList) = true)
        ·rw [if_pos c13] at H
         have c13b0 : (Op.bytesLess ((rdOf ByteArray.empty t570 x26_1).toList) a1.toList) = true := c13
         clear c13
         have H' := Ak H
         clear H
         have p574 : 0 ≤ (x26_1 : Int) := of_decide_eq_true (by (with_reducible assumption))
         have q574 : x26_1 < (t570.length : Int) := of_decide_eq_true (by (with_reducible assumption))
         obtain ⟨ad574, e574, hx574_0⟩ := Kd.at_string (Kd.R_reads' HO_8.out).2.2 x26_1 p574 q574
         cases e574
         replace p574 := eq_true p574
         replace q574 := eq_true q574
         go_wp2
         go_roundg k1
         case measure => have := HK1.out; omega
         case rel => exact ⟨(x10_1), (wrap64 (x26_1 + 1)), (by rfl), H', ⟨by have := HK1.out; omega⟩, ⟨by exact HO_8.out⟩, ⟨by exact HO_10.out⟩, ⟨by exact HB.out⟩⟩
        ·rw [if_neg c13] at H
         have c13b0 : (Op.bytesLess ((rdOf ByteArray.empty t570 x26_1).toList) a1.toList) = false := by simpa using c13
         clear c13
         by_cases c14 : ((Op.bytesLess a2.toList ((rdOf ByteArray.empty t570 x26_1).toList)) = true)
         ·rw [if_pos c14] at H
          have c14b0 : (Op.bytesLess a2.toList ((rdOf ByteArray.empty t570 x26_1).toList)) = true := c14
          clear c14
          have H' := Ak H
          clear H
          have p574 : 0 ≤ (x26_1 : Int) := of_decide_eq_true (by (with_reducible assumption))
          have q574 : x26_1 < (t570.length : Int) := of_decide_eq_true (by (with_reducible assumption))
          obtain ⟨ad574, e574, hx574_0⟩ := Kd.at_string (Kd.R_reads' HO_8.out).2.2 x26_1 p574 q574
          cases e574
          replace p574 := eq_true p574
          replace q574 := eq_true q574
          go_wp2
          go_roundg k1
          case measure => have := HK1.out; omega
          case rel => exact ⟨(x10_1), (wrap64 (x26_1 + 1)), (by rfl), H', ⟨by have := HK1.out; omega⟩, ⟨by exact HO_8.out⟩, ⟨by exact HO_10.out⟩, ⟨by exact HB.out⟩⟩
         ·rw [if_neg c14] at H
          have c14b0 : (Op.bytesLess a2.toList ((rdOf ByteArray.empty t570 x26_1).toList)) = false := by simpa using c14
          clear c14
          by_cases c15 : x10_1.length < 17592186044416
          ·rw [if_pos c15] at H
           have LMc15 := Ak c15
           clear c15
           obtain ⟨y575, hy575⟩ : ∃ y_ : List Int, y_ = (x10_1 ++ [x26_1]) := ⟨_, rfl⟩
           replace H : (q_WhereText.l0 k1 a1 a2 t570 y575 (t570.length : Int) (wrap64 (x26_1 + 1))) = some (r1, r2) := by (rw [hy575]; with_reducible exact H)
           have Ny575 := Ak hy575
           clear hy575
           have H' := Ak H
           clear H
           have p574 : 0 ≤ (x26_1 : Int) := of_decide_eq_true (by (with_reducible assumption))
           have q574 : x26_1 < (t570.length : Int) := of_decide_eq_true (by (with_reducible assumption))
           obtain ⟨ad574, e574, hx574_0⟩ := Kd.at_string (Kd.R_reads' HO_8.out).2.2 x26_1 p574 q574
           cases e574
           replace p574 := eq_true p574
           replace q574 := eq_true q574
           go_wp2_with (first | ((with_reducible refine gate_builtin (b := .append) (xs := #[.tmp 39, .tmp 41]) rfl ?_); at_builtin; refine Kd.R_append (Kd.int .i64) (w0 := w) w.heap.size rfl (.tmp 39) (.tmp 41) 22 3 (.int .i64 0) 8 rfl Try.underlying22 info3 rfl (by decide) (by omega) u10 x10_1 x26_1 [.int .i64 x26_1] (fun _ => True) (fun _ => False) rfl rfl ?aP (fun _ hk => hk.elim) ?aF ?aO ?aB ?aS ?aL ?_; (case aP => exact rfl); (case aB => exact (by exact HB.out)); (case aF => exact (fun _ _ => trivial)); (case aO => exact (by exact HO_10.out)); (case aS => exact (below_size (by exact HB.out))); (case aL => have := LMc15.out; omega); intro v576 w16 ho hb hg hat; rw [← Ny575.out] at ho; have n0_ := Ak (Kd.R_over' (by exact HO_8.out) (Kd.R_typed (by exact HO_10.out)) (by decide) hg); have n1_ := Ak (hb); have n2_ := Ak (ho); clear HO_8 HB HO_10; have HO_8 := n0_; have HB := n1_; have HO577 := n2_; clear n0_ n1_ n2_ ho hb hg hat))
           go_roundg k1
           case measure => have := HK1.out; omega
           case rel => exact ⟨(y575), (wrap64 (x26_1 + 1)), (by rfl), H', ⟨by have := HK1.out; omega⟩, ⟨by exact HO_8.out⟩, ⟨by exact HO577.out⟩, ⟨by exact HB.out⟩⟩
          ·rw [if_neg c15] at H
           exact absurd H (by simp)
       ·rw [if_neg c12] at H
        exact absurd H (by simp)
      ·rw [if_neg c11] at H
       exact absurd H (by simp)
     ·rw [if_neg c10] at H
      have c10b0 : decide (x26_1 < (t570.length : Int)) = false := decide_eq_false c10
      clear c10
      simp only [Option.some.injEq, Prod.mk.injEq] at H
      obtain ⟨rfl, rfl⟩ := H
      go_wp2
      go_ret2
      exact ⟨_, by rfl, by exact HO_10.out, by exact HB.out⟩
 ·rw [if_neg c5] at H
  have c5b0 : (t571 == 0) = false := beq_eq_false_iff_ne.mpr c5
  have c5b1 : (t571 != 0) = true := bne_iff_ne.mpr c5
  simp only [Option.some.injEq, Prod.mk.injEq] at H
  obtain ⟨rfl, rfl⟩ := H
  go_enter Try.func49, Try.ntmps49
  go_wp2_with (first | ((with_reducible refine gate_callee (f := 47) rfl ?_); refine goesL_ (some 15) rfl rfl Try.func47 (by kernel_rfl) rfl #[.slice A0 l0.length c0] rfl (by (try simp only [lm]); rfl) ?_; (with_reducible refine (q_DecodeTexts.calls k _ _ l0 t570 t571 _ ?side1 ?side2 A4.out).mono ?_); (case side1 => repeat (exact HR0.out)); (case side2 => exact HC0.out); rintro e w17 ⟨v572, rfl, ho0, hb⟩; refine ⟨_, rfl, ?_⟩; have n0_ := Ak (Kd.R_lower ho0 (below_size (by exact HB.out))); have n1_ := Ak (below_step (by exact HB.out) hb); clear HB; have HO573 := n0_; have HB := n1_; clear n0_ n1_; (try clear hb); (try clear ho0)))
  go_ret2
  exact ⟨_, by rfl, by exact Kd.R_nil _ _ _ _ _, by exact HB.out⟩
mutual
def lw.j0 : Nat → List ByteArray → List Int → Int → ByteArray → ByteArray → Bool → Option (Bool)
 | 0, _, _, _, _, _, _ => none
 | k + 1, x1, x2, x3, x4, x5, x45 => if x45 = true then (some false) else ((e_BestTexts.f k x1).bind fun bt587 => ((q_BestTexts.f k x1).bind fun bt589 => (if bt587.2 = bt589.2 then (lw.j1 k x2 x3 x4 x5 (bt587.1 != bt589.1)) else (lw.j1 k x2 x3 x4 x5 true))))
def lw.j1 : Nat → List Int → Int → ByteArray → ByteArray → Bool → Option (Bool)
 | 0, _, _, _, _, _ => none
 | k + 1, x2, x3, x4, x5, x63 => if x63 = true then (some false) else ((e_DecodeTexts.f k x2).bind fun bt591 => ((q_DecodeTexts.f k x2).bind fun bt595 => (if bt591.2 = bt595.2 then ((s_Equalt.f k bt591.1 bt595.1).bind fun t599 => (lw.j2 k x2 x3 x4 x5 (!t599))) else (lw.j2 k x2 x3 x4 x5 true))))
def lw.j2 : Nat → List Int → Int → ByteArray → ByteArray → Bool → Option (Bool)
 | 0, _, _, _, _, _ => none
 | k + 1, x2, x3, x4, x5, x82 => if x82 = true then (some false) else ((e_TextAt.f k x2 x3).bind fun bt600 => ((q_TextAt.f k x2 x3).bind fun bt602 => (if bt600.2 = bt602.2 then (lw.j3 k x2 x4 x5 (bt600.1.toList != bt602.1.toList)) else (lw.j3 k x2 x4 x5 true))))
def lw.j3 : Nat → List Int → ByteArray → ByteArray → Bool → Option (Bool)
 | 0, _, _, _, _ => none
 | k + 1, x2, x4, x5, x102 => if x102 = true then (some false) else ((e_WhereText.f k x2 x4 x5).bind fun bt604 => ((q_WhereText.f k x2 x4 x5).bind fun bt608 => (if bt604.2 = bt608.2 then ((s_Equal.f k bt604.1 bt608.1).bind fun t612 => (if t612 = true then ((peristylelaw2_awake.f k).bind fun t613 => (some t613)) else (some false))) else (some false))))
end
def lw.f (k : Nat) (a0 : Int) (l1 : List ByteArray) (l2 : List Int) (a3 : Int) (a4 : ByteArray) (a5 : ByteArray) : Option (Bool) := (e_EncodeTexts.f k a0 l1).bind fun bt578 => ((q_EncodeTexts.f k a0 l1).bind fun bt582 => (if bt578.2 = bt582.2 then ((s_Equalb.f k bt578.1 bt582.1).bind fun t586 => (lw.j0 k l1 l2 a3 a4 a5 (!t586))) else (lw.j0 k l1 l2 a3 a4 a5 true)))
theorem lw.mono_l : ∀ k, (∀ y0 y1 y2 y3 y4 y5, LeO (lw.j0 k y0 y1 y2 y3 y4 y5) (lw.j0 (k + 1) y0 y1 y2 y3 y4 y5)) ∧ (∀ y0 y1 y2 y3 y4, LeO (lw.j1 k y0 y1 y2 y3 y4) (lw.j1 (k + 1) y0 y1 y2 y3 y4)) ∧ (∀ y0 y1 y2 y3 y4, LeO (lw.j2 k y0 y1 y2 y3 y4) (lw.j2 (k + 1) y0 y1 y2 y3 y4)) ∧ (∀ y0 y1 y2 y3, LeO (lw.j3 k y0 y1 y2 y3) (lw.j3 (k + 1) y0 y1 y2 y3))
 | 0 => ⟨fun _ _ _ _ _ _ r h => by simp [lw.j0] at h, fun _ _ _ _ _ r h => by simp [lw.j1] at h, fun _ _ _ _ _ r h => by simp [lw.j2] at h, fun _ _ _ _ r h => by simp [lw.j3] at h⟩
 | k + 1 => by
  obtain ⟨ih0, ih1, ih2, ih3⟩ := lw.mono_l k
  refine ⟨?_, ?_, ?_, ?_⟩ <;> intros
  all_goals (first | unfold lw.j0 | unfold lw.j1 | unfold lw.j2 | unfold lw.j3)
  all_goals
   repeat' first
   | (with_reducible exact ih1 _ _ _ _ _)
   | (with_reducible exact ih2 _ _ _ _ _)
   | (with_reducible exact ih3 _ _ _ _)
   | (with_reducible exact e_BestTexts.mono _ _)
   | (with_reducible exact e_DecodeTexts.mono _ _)
   | (with_reducible exact e_TextAt.mono _ _ _)
   | (with_reducible exact e_WhereText.mono _ _ _ _)
   | (with_reducible exact peristylelaw2_awake.mono _)
   | (with_reducible exact q_BestTexts.mono _ _)
   | (with_reducible exact q_DecodeTexts.mono _ _)
   | (with_reducible exact q_TextAt.mono _ _ _)
   | (with_reducible exact q_WhereText.mono _ _ _ _)
   | (with_reducible exact s_Equal.mono _ _ _)
   | (with_reducible exact s_Equalt.mono _ _ _)
   | (with_reducible exact LeO.refl _)
   | (with_reducible refine LeO.ite ?_ ?_)
   | (with_reducible refine LeO.bind ?_ (fun _ => ?_))
theorem lw.mono : ∀ a0 a1 a2 a3 a4 a5 k, LeO (lw.f k a0 a1 a2 a3 a4 a5) (lw.f (k + 1) a0 a1 a2 a3 a4 a5) := by
 intro a0 a1 a2 a3 a4 a5 k
 obtain ⟨ih0, ih1, ih2, ih3⟩ := lw.mono_l k
 unfold lw.f
 repeat' first
  | (with_reducible exact ih0 _ _ _ _ _ _)
  | (with_reducible exact e_EncodeTexts.mono _ _ _)
  | (with_reducible exact q_EncodeTexts.mono _ _ _)
  | (with_reducible exact s_Equalb.mono _ _ _)
  | (with_reducible refine LeO.ite ?_ ?_)
  | (with_reducible refine LeO.bind ?_ (fun _ => ?_))
set_option maxHeartbeats 8000000 in
set_option maxRecDepth 100000 in
theorem lw.calls (k : Nat) (a0 : Int) (A1 : Option Addr) (c1 : Nat) (l1 : List ByteArray) (A2 : Option Addr) (c2 : Nat) (l2 : List Int) (a3 : Int) (a4 : ByteArray) (a5 : ByteArray) (r : Bool) (w : World) (hr1 : Kd.C Kd.string w A1 l1.length l1) (hc1 : l1.length ≤ c1) (hr2 : Kd.C (Kd.int .u8) w A2 l2.length l2) (hc2 : l2.length ≤ c2) (h : lw.f k a0 l1 l2 a3 a4 a5 = some r) :
 Calls Try.prog 11 #[.int .i64 a0, .slice A1 l1.length c1, .slice A2 l2.length c2, .int .i64 a3, .string a4, .string a5] w fun e w' => e = .returned (.bool r) ∧ Below w.heap.size w w' := by
 have HR1 := Ak hr1
 have HC1 := Ak hc1
 clear hr1 hc1
 have HR2 := Ak hr2
 have HC2 := Ak hc2
 clear hr2 hc2
 have HB := Ak (Below.refl w.heap.size w)
 have H : ((e_EncodeTexts.f k a0 l1).bind fun bt578 => ((q_EncodeTexts.f k a0 l1).bind fun bt582 => (if bt578.2 = bt582.2 then ((s_Equalb.f k bt578.1 bt582.1).bind fun t586 => (lw.j0 k l1 l2 a3 a4 a5 (!t586))) else (lw.j0 k l1 l2 a3 a4 a5 true)))) = some r := h
 clear h
 replace H := Option.bind_eq_some_iff.mp H
 obtain ⟨⟨t578, t579⟩, A70, H⟩ := H
 replace H : ((q_EncodeTexts.f k a0 l1).bind fun bt582 => (if t579 = bt582.2 then ((s_Equalb.f k t578 bt582.1).bind fun t586 => (lw.j0 k l1 l2 a3 a4 a5 (!t586))) else (lw.j0 k l1 l2 a3 a4 a5 true))) = some r := H
 have A7 := Ak A70
 clear A70
 replace H := Option.bind_eq_some_iff.mp H
 obtain ⟨⟨t582, t583⟩, A80, H⟩ := H
 replace H : (if t579 = t583 then ((s_Equalb.f k t578 t582).bind fun t586 => (lw.j0 k l1 l2 a3 a4 a5 (!t586))) else (lw.j0 k l1 l2 a3 a4 a5 true)) = some r := H
 have A8 := Ak A80
 clear A80
 have HC9 := Ak H
 clear H
 go_enter Try.func11, Try.ntmps11
 go_upto_region 3 with (first | ((with_reducible refine gate_callee (f := 35) rfl ?_); refine goesL_ (some 28) rfl rfl Try.func35 (by kernel_rfl) rfl #[.int .i64 a0, .slice A1 l1.length c1] rfl (by (try simp only [lm]); rfl) ?_; (with_reducible refine (e_EncodeTexts.calls k a0 _ _ l1 t578 t579 _ ?side1 ?side2 A7.out).mono ?_); (case side1 => repeat (exact HR1.out)); (case side2 => exact HC1.out); rintro e w10 ⟨v580, rfl, ho0, hb⟩; refine ⟨_, rfl, ?_⟩; have n0_ := Ak (Kd.R_lower ho0 (below_size (by exact HB.out))); have n1_ := Ak (below_step (by exact HB.out) hb); clear HB; have HO581 := n0_; have HB := n1_; clear n0_ n1_; (try clear hb); (try clear ho0)) | ((with_reducible refine gate_callee (f := 44) rfl ?_); refine goesL_ (some 34) rfl rfl Try.func44 (by kernel_rfl) rfl #[.int .i64 a0, .slice A1 l1.length c1] rfl (by (try simp only [lm]); rfl) ?_; (with_reducible refine (q_EncodeTexts.calls k a0 _ _ l1 t582 t583 _ ?side1 ?side2 A8.out).mono ?_); (case side1 => repeat (exact (Kd.C_below HR1.out HB.out))); (case side2 => exact HC1.out); rintro e w11 ⟨v584, rfl, ho0, hb⟩; refine ⟨_, rfl, ?_⟩; have n0_ := Ak (Kd.R_elder' (by exact HO581.out) (Kd.R_base ho0) hb); have n1_ := Ak (Kd.R_lower (Kd.R_new' ho0 (Kd.R_lt (by exact HO581.out))) (below_size (by exact HB.out))); have n2_ := Ak (below_step (by exact HB.out) hb); clear HO581 HB; have HO581 := n0_; have HO585 := n1_; have HB := n2_; clear n0_ n1_ n2_; (try clear hb); (try clear ho0)))
 (try simp only [Act.put, List.setIfInBounds_toArray, List.set_cons_zero, List.set_cons_succ])
 go_cut [45] (fun v45 wc => ∃ (kq : Nat) (x45_8 : Bool), v45 = .bool x45_8 ∧ Aside0 (lw.j0 kq l1 l2 a3 a4 a5 x45_8 = some r) ∧ Aside0 (kq ≤ k) ∧ Aside0 (Below w.heap.size w wc))
 case first =>
  have H := HC9.out
  clear HC9
  by_cases c12 : t579 = t583
  ·rw [if_pos c12] at H
   have c12b0 : (t579 == t583) = true := beq_iff_eq.mpr c12
   have c12b1 : (t579 != t583) = false := bne_eq_false_iff_eq.mpr c12
   clear c12
   (skip)
   (try rw [c12b1])
   replace H := Option.bind_eq_some_iff.mp H
   obtain ⟨t586, A130, H⟩ := H
   replace H : (lw.j0 k l1 l2 a3 a4 a5 (!t586)) = some r := H
   have A13 := Ak A130
   clear A130
   have H' := Ak H
   clear H
   obtain ⟨Ao14, co14, eo14⟩ := Kd.R_slice HO581.out
   subst eo14
   obtain ⟨Ao15, co15, eo15⟩ := Kd.R_slice HO585.out
   subst eo15
   go_wp2_with (first | (go_at_call 17; (with_reducible refine (s_Equalb.calls k _ _ t578 _ _ t582 t586 _ ?side1 ?side2 ?side3 ?side4 A13.out).mono ?_); (case side1 => repeat (exact (Kd.R_reads' HO581.out).2.2)); (case side2 => exact (Kd.R_reads' HO581.out).2.1); (case side3 => repeat (exact (Kd.R_reads' HO585.out).2.2)); (case side4 => exact (Kd.R_reads' HO585.out).2.1); rintro e w' ⟨rfl, ⟨nd, rfl⟩⟩))
   go_meet
   case rel => exact ⟨_, (!t586), (by rfl), H', ⟨by omega⟩, ⟨by repeat ((with_reducible first | exact HB.out | apply pw_below_drewN))⟩⟩
  ·rw [if_neg c12] at H
   have c12b0 : (t579 == t583) = false := beq_eq_false_iff_ne.mpr c12
   have c12b1 : (t579 != t583) = true := bne_iff_ne.mpr c12
   (skip)
   (try rw [c12b1])
   have H' := Ak H
   clear H
   go_wp2
   go_meet
   case rel => exact ⟨_, (true), (by rfl), H', ⟨by omega⟩, ⟨by exact HB.out⟩⟩
 case rest =>
  clear HC9
  obtain ⟨kq, x45_8, rfl, HA, HJ8, HB⟩ := hcut
  cases kq with
  | zero => exact absurd HA.out (by simp [lw.j0])
  | succ kj8 =>
   have H := HA.out
   clear HA
   simp only [lw.j0] at H
   by_cases c16 : x45_8 = true
   ·subst c16
    replace H : (some false) = some r := by rw [if_pos rfl] at H; exact H
    obtain rfl := Option.some.inj H
    go_wp2
    go_ret
    exact ⟨by rfl, by exact HB.out⟩
   ·replace c16 := Bool.eq_false_iff.mpr c16
    subst c16
    replace H : ((e_BestTexts.f kj8 l1).bind fun bt587 => ((q_BestTexts.f kj8 l1).bind fun bt589 => (if bt587.2 = bt589.2 then (lw.j1 kj8 l2 a3 a4 a5 (bt587.1 != bt589.1)) else (lw.j1 kj8 l2 a3 a4 a5 true)))) = some r := by rw [if_neg (show ¬ (false = true) by decide)] at H; exact H
    replace H := Option.bind_eq_some_iff.mp H
    obtain ⟨⟨t587, t588⟩, A170, H⟩ := H
    replace H : ((q_BestTexts.f kj8 l1).bind fun bt589 => (if t588 = bt589.2 then (lw.j1 kj8 l2 a3 a4 a5 (t587 != bt589.1)) else (lw.j1 kj8 l2 a3 a4 a5 true))) = some r := H
    have A17 := Ak A170
    clear A170
    replace H := Option.bind_eq_some_iff.mp H
    obtain ⟨⟨t589, t590⟩, A180, H⟩ := H
    replace H : (if t588 = t590 then (lw.j1 kj8 l2 a3 a4 a5 (t587 != t589)) else (lw.j1 kj8 l2 a3 a4 a5 true)) = some r := H
    have A18 := Ak A180
    clear A180
    have HC19 := Ak H
    clear H
    go_upto_region 7 with (first | ((with_reducible refine gate_callee (f := 45) rfl ?_); refine goesL_ (some 48) rfl rfl Try.func45 (by kernel_rfl) rfl #[.slice A1 l1.length c1] rfl (by (try simp only [lm]); rfl) ?_; (with_reducible refine (e_BestTexts.calls kj8 _ _ l1 t587 t588 _ ?side1 ?side2 A17.out).mono ?_); (case side1 => repeat (exact (Kd.C_below HR1.out HB.out))); (case side2 => exact HC1.out); rintro e w20 ⟨rfl, hb⟩; refine ⟨_, rfl, ?_⟩; have n0_ := Ak (below_step (by exact HB.out) hb); clear HB; have HB := n0_; clear n0_; (try clear hb); (try clear hi)) | ((with_reducible refine gate_callee (f := 46) rfl ?_); refine goesL_ (some 53) rfl rfl Try.func46 (by kernel_rfl) rfl #[.slice A1 l1.length c1] rfl (by (try simp only [lm]); rfl) ?_; (with_reducible refine (q_BestTexts.calls kj8 _ _ l1 t589 t590 _ ?side1 ?side2 A18.out).mono ?_); (case side1 => repeat (exact (Kd.C_below HR1.out HB.out))); (case side2 => exact HC1.out); rintro e w21 ⟨rfl, hb⟩; refine ⟨_, rfl, ?_⟩; have n0_ := Ak (below_step (by exact HB.out) hb); clear HB; have HB := n0_; clear n0_; (try clear hb); (try clear hi)))
    (try simp only [Act.put, List.setIfInBounds_toArray, List.set_cons_zero, List.set_cons_succ])
    go_cut [63] (fun v63 wc => ∃ (kq : Nat) (x63_18 : Bool), v63 = .bool x63_18 ∧ Aside0 (lw.j1 kq l2 a3 a4 a5 x63_18 = some r) ∧ Aside0 (kq ≤ kj8) ∧ Aside0 (Below w.heap.size w wc))
    case first =>
     have H := HC19.out
     clear HC19
     by_cases c22 : t588 = t590
     ·rw [if_pos c22] at H
      have c22b0 : (t588 == t590) = true := beq_iff_eq.mpr c22
      have c22b1 : (t588 != t590) = false := bne_eq_false_iff_eq.mpr c22
      clear c22
      (skip)
      (try rw [c22b1])
      have H' := Ak H
      clear H
      go_wp2
      go_meet
      case rel => exact ⟨_, ((t587 != t589)), (by rfl), H', ⟨by have := HJ8.out; omega⟩, ⟨by exact HB.out⟩⟩
     ·rw [if_neg c22] at H
      have c22b0 : (t588 == t590) = false := beq_eq_false_iff_ne.mpr c22
      have c22b1 : (t588 != t590) = true := bne_iff_ne.mpr c22
      (skip)
      (try rw [c22b1])
      have H' := Ak H
      clear H
      go_wp2
      go_meet
      case rel => exact ⟨_, (true), (by rfl), H', ⟨by have := HJ8.out; omega⟩, ⟨by exact HB.out⟩⟩
    case rest =>
     clear HC19
     obtain ⟨kq, x63_18, rfl, HA, HJ18, HB⟩ := hcut
     cases kq with
     | zero => exact absurd HA.out (by simp [lw.j1])
     | succ kj18 =>
      have H := HA.out
      clear HA
      simp only [lw.j1] at H
      by_cases c23 : x63_18 = true
      ·subst c23
       replace H : (some false) = some r := by rw [if_pos rfl] at H; exact H
       obtain rfl := Option.some.inj H
       go_wp2
       go_ret
       exact ⟨by rfl, by exact HB.out⟩
      ·replace c23 := Bool.eq_false_iff.mpr c23
       subst c23
       replace H : ((e_DecodeTexts.f kj18 l2).bind fun bt591 => ((q_DecodeTexts.f kj18 l2).bind fun bt595 => (if bt591.2 = bt595.2 then ((s_Equalt.f kj18 bt591.1 bt595.1).bind fun t599 => (lw.j2 kj18 l2 a3 a4 a5 (!t599))) else (lw.j2 kj18 l2 a3 a4 a5 true)))) = some r := by rw [if_neg (show ¬ (false = true) by decide)] at H; exact H
       replace H := Option.bind_eq_some_iff.mp H
       obtain ⟨⟨t591, t592⟩, A240, H⟩ := H
       replace H : ((q_DecodeTexts.f kj18 l2).bind fun bt595 => (if t592 = bt595.2 then ((s_Equalt.f kj18 t591 bt595.1).bind fun t599 => (lw.j2 kj18 l2 a3 a4 a5 (!t599))) else (lw.j2 kj18 l2 a3 a4 a5 true))) = some r := H
       have A24 := Ak A240
       clear A240
       replace H := Option.bind_eq_some_iff.mp H
       obtain ⟨⟨t595, t596⟩, A250, H⟩ := H
       replace H : (if t592 = t596 then ((s_Equalt.f kj18 t591 t595).bind fun t599 => (lw.j2 kj18 l2 a3 a4 a5 (!t599))) else (lw.j2 kj18 l2 a3 a4 a5 true)) = some r := H
       have A25 := Ak A250
       clear A250
       have HC26 := Ak H
       clear H
       go_upto_region 11 with (first | ((with_reducible refine gate_callee (f := 36) rfl ?_); refine goesL_ (some 66) rfl rfl Try.func36 (by kernel_rfl) rfl #[.slice A2 l2.length c2] rfl (by (try simp only [lm]); rfl) ?_; (with_reducible refine (e_DecodeTexts.calls kj18 _ _ l2 t591 t592 _ ?side1 ?side2 A24.out).mono ?_); (case side1 => repeat (exact (Kd.C_below HR2.out HB.out))); (case side2 => exact HC2.out); rintro e w27 ⟨v593, rfl, ho0, hb⟩; refine ⟨_, rfl, ?_⟩; have n0_ := Ak (Kd.R_lower ho0 (below_size (by exact HB.out))); have n1_ := Ak (below_step (by exact HB.out) hb); clear HB; have HO594 := n0_; have HB := n1_; clear n0_ n1_; (try clear hb); (try clear ho0)) | ((with_reducible refine gate_callee (f := 47) rfl ?_); refine goesL_ (some 71) rfl rfl Try.func47 (by kernel_rfl) rfl #[.slice A2 l2.length c2] rfl (by (try simp only [lm]); rfl) ?_; (with_reducible refine (q_DecodeTexts.calls kj18 _ _ l2 t595 t596 _ ?side1 ?side2 A25.out).mono ?_); (case side1 => repeat (exact (Kd.C_below HR2.out HB.out))); (case side2 => exact HC2.out); rintro e w28 ⟨v597, rfl, ho0, hb⟩; refine ⟨_, rfl, ?_⟩; have n0_ := Ak (Kd.R_elder' (by exact HO594.out) (Kd.R_base ho0) hb); have n1_ := Ak (Kd.R_lower (Kd.R_new' ho0 (Kd.R_lt (by exact HO594.out))) (below_size (by exact HB.out))); have n2_ := Ak (below_step (by exact HB.out) hb); clear HO594 HB; have HO594 := n0_; have HO598 := n1_; have HB := n2_; clear n0_ n1_ n2_; (try clear hb); (try clear ho0)))
       (try simp only [Act.put, List.setIfInBounds_toArray, List.set_cons_zero, List.set_cons_succ])
       go_cut [82] (fun v82 wc => ∃ (kq : Nat) (x82_25 : Bool), v82 = .bool x82_25 ∧ Aside0 (lw.j2 kq l2 a3 a4 a5 x82_25 = some r) ∧ Aside0 (kq ≤ kj18) ∧ Aside0 (Below w.heap.size w wc))
       case first =>
        have H := HC26.out
        clear HC26
        by_cases c29 : t592 = t596
        ·rw [if_pos c29] at H
         have c29b0 : (t592 == t596) = true := beq_iff_eq.mpr c29
         have c29b1 : (t592 != t596) = false := bne_eq_false_iff_eq.mpr c29
         clear c29
         (skip)
         (try rw [c29b1])
         replace H := Option.bind_eq_some_iff.mp H
         obtain ⟨t599, A300, H⟩ := H
         replace H : (lw.j2 kj18 l2 a3 a4 a5 (!t599)) = some r := H
         have A30 := Ak A300
         clear A300
         have H' := Ak H
         clear H
         obtain ⟨Ao31, co31, eo31⟩ := Kd.R_slice HO594.out
         subst eo31
         obtain ⟨Ao32, co32, eo32⟩ := Kd.R_slice HO598.out
         subst eo32
         go_wp2_with (first | (go_at_call 37; (with_reducible refine (s_Equalt.calls kj18 _ _ t591 _ _ t595 t599 _ ?side1 ?side2 ?side3 ?side4 A30.out).mono ?_); (case side1 => repeat (exact (Kd.R_reads' HO594.out).2.2)); (case side2 => exact (Kd.R_reads' HO594.out).2.1); (case side3 => repeat (exact (Kd.R_reads' HO598.out).2.2)); (case side4 => exact (Kd.R_reads' HO598.out).2.1); rintro e w' ⟨rfl, ⟨nd, rfl⟩⟩))
         go_meet
         case rel => exact ⟨_, (!t599), (by rfl), H', ⟨by have := HJ8.out; have := HJ18.out; omega⟩, ⟨by repeat ((with_reducible first | exact HB.out | apply pw_below_drewN))⟩⟩
        ·rw [if_neg c29] at H
         have c29b0 : (t592 == t596) = false := beq_eq_false_iff_ne.mpr c29
         have c29b1 : (t592 != t596) = true := bne_iff_ne.mpr c29
         (skip)
         (try rw [c29b1])
         have H' := Ak H
         clear H
         go_wp2
         go_meet
         case rel => exact ⟨_, (true), (by rfl), H', ⟨by have := HJ8.out; have := HJ18.out; omega⟩, ⟨by exact HB.out⟩⟩
       case rest =>
        clear HC26
        obtain ⟨kq, x82_25, rfl, HA, HJ25, HB⟩ := hcut
        cases kq with
        | zero => exact absurd HA.out (by simp [lw.j2])
        | succ kj25 =>
         have H := HA.out
         clear HA
         simp only [lw.j2] at H
         by_cases c33 : x82_25 = true
         ·subst c33
          replace H : (some false) = some r := by rw [if_pos rfl] at H; exact H
          obtain rfl := Option.some.inj H
          go_wp2
          go_ret
          exact ⟨by rfl, by exact HB.out⟩
         ·replace c33 := Bool.eq_false_iff.mpr c33
          subst c33
          replace H : ((e_TextAt.f kj25 l2 a3).bind fun bt600 => ((q_TextAt.f kj25 l2 a3).bind fun bt602 => (if bt600.2 = bt602.2 then (lw.j3 kj25 l2 a4 a5 (bt600.1.toList != bt602.1.toList)) else (lw.j3 kj25 l2 a4 a5 true)))) = some r := by rw [if_neg (show ¬ (false = true) by decide)] at H; exact H
          replace H := Option.bind_eq_some_iff.mp H
          obtain ⟨⟨t600, t601⟩, A340, H⟩ := H
          replace H : ((q_TextAt.f kj25 l2 a3).bind fun bt602 => (if t601 = bt602.2 then (lw.j3 kj25 l2 a4 a5 (t600.toList != bt602.1.toList)) else (lw.j3 kj25 l2 a4 a5 true))) = some r := H
          have A34 := Ak A340
          clear A340
          replace H := Option.bind_eq_some_iff.mp H
          obtain ⟨⟨t602, t603⟩, A350, H⟩ := H
          replace H : (if t601 = t603 then (lw.j3 kj25 l2 a4 a5 (t600.toList != t602.toList)) else (lw.j3 kj25 l2 a4 a5 true)) = some r := H
          have A35 := Ak A350
          clear A350
          have HC36 := Ak H
          clear H
          go_upto_region 15 with (first | ((with_reducible refine gate_callee (f := 39) rfl ?_); refine goesL_ (some 86) rfl rfl Try.func39 (by kernel_rfl) rfl #[.slice A2 l2.length c2, .int .i64 a3] rfl (by (try simp only [lm]); rfl) ?_; (with_reducible refine (e_TextAt.calls kj25 _ _ l2 a3 t600 t601 _ ?side1 ?side2 A34.out).mono ?_); (case side1 => repeat (exact (Kd.C_below HR2.out HB.out))); (case side2 => exact HC2.out); rintro e w37 ⟨rfl, hb⟩; refine ⟨_, rfl, ?_⟩; have n0_ := Ak (below_step (by exact HB.out) hb); clear HB; have HB := n0_; clear n0_; (try clear hb); (try clear hi)) | ((with_reducible refine gate_callee (f := 48) rfl ?_); refine goesL_ (some 92) rfl rfl Try.func48 (by kernel_rfl) rfl #[.slice A2 l2.length c2, .int .i64 a3] rfl (by (try simp only [lm]); rfl) ?_; (with_reducible refine (q_TextAt.calls kj25 _ _ l2 a3 t602 t603 _ ?side1 ?side2 A35.out).mono ?_); (case side1 => repeat (exact (Kd.C_below HR2.out HB.out))); (case side2 => exact HC2.out); rintro e w38 ⟨rfl, hb⟩; refine ⟨_, rfl, ?_⟩; have n0_ := Ak (below_step (by exact HB.out) hb); clear HB; have HB := n0_; clear n0_; (try clear hb); (try clear hi)))
          (try simp only [Act.put, List.setIfInBounds_toArray, List.set_cons_zero, List.set_cons_succ])
          go_cut [102] (fun v102 wc => ∃ (kq : Nat) (x102_35 : Bool), v102 = .bool x102_35 ∧ Aside0 (lw.j3 kq l2 a4 a5 x102_35 = some r) ∧ Aside0 (kq ≤ kj25) ∧ Aside0 (Below w.heap.size w wc))
          case first =>
           have H := HC36.out
           clear HC36
           by_cases c39 : t601 = t603
           ·rw [if_pos c39] at H
            have c39b0 : (t601 == t603) = true := beq_iff_eq.mpr c39
            have c39b1 : (t601 != t603) = false := bne_eq_false_iff_eq.mpr c39
            clear c39
            (skip)
            (try rw [c39b1])
            have H' := Ak H
            clear H
            go_wp2
            go_meet
            case rel => exact ⟨_, ((t600.toList != t602.toList)), (by rfl), H', ⟨by have := HJ8.out; have := HJ18.out; have := HJ25.out; omega⟩, ⟨by exact HB.out⟩⟩
           ·rw [if_neg c39] at H
            have c39b0 : (t601 == t603) = false := beq_eq_false_iff_ne.mpr c39
            have c39b1 : (t601 != t603) = true := bne_iff_ne.mpr c39
            (skip)
            (try rw [c39b1])
            have H' := Ak H
            clear H
            go_wp2
            go_meet
            case rel => exact ⟨_, (true), (by rfl), H', ⟨by have := HJ8.out; have := HJ18.out; have := HJ25.out; omega⟩, ⟨by exact HB.out⟩⟩
          case rest =>
           clear HC36
           obtain ⟨kq, x102_35, rfl, HA, HJ35, HB⟩ := hcut
           cases kq with
           | zero => exact absurd HA.out (by simp [lw.j3])
           | succ kj35 =>
            have H := HA.out
            clear HA
            simp only [lw.j3] at H
            by_cases c40 : x102_35 = true
            ·subst c40
             replace H : (some false) = some r := by rw [if_pos rfl] at H; exact H
             obtain rfl := Option.some.inj H
             go_wp2
             go_ret
             exact ⟨by rfl, by exact HB.out⟩
            ·replace c40 := Bool.eq_false_iff.mpr c40
             subst c40
             replace H : ((e_WhereText.f kj35 l2 a4 a5).bind fun bt604 => ((q_WhereText.f kj35 l2 a4 a5).bind fun bt608 => (if bt604.2 = bt608.2 then ((s_Equal.f kj35 bt604.1 bt608.1).bind fun t612 => (if t612 = true then ((peristylelaw2_awake.f kj35).bind fun t613 => (some t613)) else (some false))) else (some false)))) = some r := by rw [if_neg (show ¬ (false = true) by decide)] at H; exact H
             replace H := Option.bind_eq_some_iff.mp H
             obtain ⟨⟨t604, t605⟩, A410, H⟩ := H
             replace H : ((q_WhereText.f kj35 l2 a4 a5).bind fun bt608 => (if t605 = bt608.2 then ((s_Equal.f kj35 t604 bt608.1).bind fun t612 => (if t612 = true then ((peristylelaw2_awake.f kj35).bind fun t613 => (some t613)) else (some false))) else (some false))) = some r := H
             have A41 := Ak A410
             clear A410
             replace H := Option.bind_eq_some_iff.mp H
             obtain ⟨⟨t608, t609⟩, A420, H⟩ := H
             replace H : (if t605 = t609 then ((s_Equal.f kj35 t604 t608).bind fun t612 => (if t612 = true then ((peristylelaw2_awake.f kj35).bind fun t613 => (some t613)) else (some false))) else (some false)) = some r := H
             have A42 := Ak A420
             clear A420
             by_cases c43 : t605 = t609
             ·rw [if_pos c43] at H
              have c43b0 : (t605 == t609) = true := beq_iff_eq.mpr c43
              have c43b1 : (t605 != t609) = false := bne_eq_false_iff_eq.mpr c43
              clear c43
              replace H := Option.bind_eq_some_iff.mp H
              obtain ⟨t612, A440, H⟩ := H
              replace H : (if t612 = true then ((peristylelaw2_awake.f kj35).bind fun t613 => (some t613)) else (some false)) = some r := H
              have A44 := Ak A440
              clear A440
              by_cases c45 : t612 = true
              ·subst c45
               replace H : ((peristylelaw2_awake.f kj35).bind fun t613 => (some t613)) = some r := by rw [if_pos rfl] at H; exact H
               replace H := Option.bind_eq_some_iff.mp H
               obtain ⟨t613, A460, H⟩ := H
               replace H : (some t613) = some r := H
               have A46 := Ak A460
               clear A460
               obtain rfl := Option.some.inj H
               go_wp2_with (first | ((with_reducible refine gate_callee (f := 38) rfl ?_); refine goesL_ (some 107) rfl rfl Try.func38 (by kernel_rfl) rfl #[.slice A2 l2.length c2, .string a4, .string a5] rfl (by (try simp only [lm]); rfl) ?_; (with_reducible refine (e_WhereText.calls kj35 _ _ l2 a4 a5 t604 t605 _ ?side1 ?side2 A41.out).mono ?_); (case side1 => repeat (exact (Kd.C_below HR2.out HB.out))); (case side2 => exact HC2.out); rintro e w47 ⟨v606, rfl, ho0, hb⟩; refine ⟨_, rfl, ?_⟩; have n0_ := Ak (Kd.R_lower ho0 (below_size (by exact HB.out))); have n1_ := Ak (below_step (by exact HB.out) hb); clear HB; have HO607 := n0_; have HB := n1_; clear n0_ n1_; (try clear hb); (try clear ho0)) | ((with_reducible refine gate_callee (f := 49) rfl ?_); refine goesL_ (some 114) rfl rfl Try.func49 (by kernel_rfl) rfl #[.slice A2 l2.length c2, .string a4, .string a5] rfl (by (try simp only [lm]); rfl) ?_; (with_reducible refine (q_WhereText.calls kj35 _ _ l2 a4 a5 t608 t609 _ ?side1 ?side2 A42.out).mono ?_); (case side1 => repeat (exact (Kd.C_below HR2.out HB.out))); (case side2 => exact HC2.out); rintro e w48 ⟨v610, rfl, ho0, hb⟩; refine ⟨_, rfl, ?_⟩; have n0_ := Ak (Kd.R_elder' (by exact HO607.out) (Kd.R_base ho0) hb); have n1_ := Ak (Kd.R_lower (Kd.R_new' ho0 (Kd.R_lt (by exact HO607.out))) (below_size (by exact HB.out))); have n2_ := Ak (below_step (by exact HB.out) hb); clear HO607 HB; have HO607 := n0_; have HO611 := n1_; have HB := n2_; clear n0_ n1_ n2_; (try clear hb); (try clear ho0); obtain ⟨Ao49, co49, eo49⟩ := Kd.R_slice HO607.out; subst eo49; obtain ⟨Ao50, co50, eo50⟩ := Kd.R_slice HO611.out; subst eo50) | (go_at_call 22; (with_reducible refine (s_Equal.calls kj35 _ _ t604 _ _ t608 true _ ?side1 ?side2 ?side3 ?side4 A44.out).mono ?_); (case side1 => repeat (exact (Kd.R_reads' HO607.out).2.2)); (case side2 => exact (Kd.R_reads' HO607.out).2.1); (case side3 => repeat (exact (Kd.R_reads' HO611.out).2.2)); (case side4 => exact (Kd.R_reads' HO611.out).2.1); rintro e w' ⟨rfl, ⟨nd, rfl⟩⟩) | (go_at_call 13; (with_reducible refine (peristylelaw2_awake.calls kj35  t613 _ A46.out).mono ?_); rintro e w51 ⟨rfl, hb⟩; have n0_ := Ak (Kd.R_below (by (with_reducible repeat (apply Kd.R_drewN)); exact HO607.out) hb); have n1_ := Ak (Kd.R_below (by (with_reducible repeat (apply Kd.R_drewN)); exact HO611.out) hb); have n2_ := Ak (below_step (by repeat ((with_reducible first | exact HB.out | apply pw_below_drewN))) hb); clear HO607 HO611 HB; have HO607 := n0_; have HO611 := n1_; have HB := n2_; clear n0_ n1_ n2_; (try clear hb); (try clear hi)))
               go_ret
               exact ⟨by rfl, by exact HB.out⟩
              ·replace c45 := Bool.eq_false_iff.mpr c45
               subst c45
               replace H : (some false) = some r := by rw [if_neg (show ¬ (false = true) by decide)] at H; exact H
               obtain rfl := Option.some.inj H
               go_wp2_with (first | ((with_reducible refine gate_callee (f := 38) rfl ?_); refine goesL_ (some 107) rfl rfl Try.func38 (by kernel_rfl) rfl #[.slice A2 l2.length c2, .string a4, .string a5] rfl (by (try simp only [lm]); rfl) ?_; (with_reducible refine (e_WhereText.calls kj35 _ _ l2 a4 a5 t604 t605 _ ?side1 ?side2 A41.out).mono ?_); (case side1 => repeat (exact (Kd.C_below HR2.out HB.out))); (case side2 => exact HC2.out); rintro e w52 ⟨v606, rfl, ho0, hb⟩; refine ⟨_, rfl, ?_⟩; have n0_ := Ak (Kd.R_lower ho0 (below_size (by exact HB.out))); have n1_ := Ak (below_step (by exact HB.out) hb); clear HB; have HO607 := n0_; have HB := n1_; clear n0_ n1_; (try clear hb); (try clear ho0)) | ((with_reducible refine gate_callee (f := 49) rfl ?_); refine goesL_ (some 114) rfl rfl Try.func49 (by kernel_rfl) rfl #[.slice A2 l2.length c2, .string a4, .string a5] rfl (by (try simp only [lm]); rfl) ?_; (with_reducible refine (q_WhereText.calls kj35 _ _ l2 a4 a5 t608 t609 _ ?side1 ?side2 A42.out).mono ?_); (case side1 => repeat (exact (Kd.C_below HR2.out HB.out))); (case side2 => exact HC2.out); rintro e w53 ⟨v610, rfl, ho0, hb⟩; refine ⟨_, rfl, ?_⟩; have n0_ := Ak (Kd.R_elder' (by exact HO607.out) (Kd.R_base ho0) hb); have n1_ := Ak (Kd.R_lower (Kd.R_new' ho0 (Kd.R_lt (by exact HO607.out))) (below_size (by exact HB.out))); have n2_ := Ak (below_step (by exact HB.out) hb); clear HO607 HB; have HO607 := n0_; have HO611 := n1_; have HB := n2_; clear n0_ n1_ n2_; (try clear hb); (try clear ho0); obtain ⟨Ao54, co54, eo54⟩ := Kd.R_slice HO607.out; subst eo54; obtain ⟨Ao55, co55, eo55⟩ := Kd.R_slice HO611.out; subst eo55) | (go_at_call 22; (with_reducible refine (s_Equal.calls kj35 _ _ t604 _ _ t608 false _ ?side1 ?side2 ?side3 ?side4 A44.out).mono ?_); (case side1 => repeat (exact (Kd.R_reads' HO607.out).2.2)); (case side2 => exact (Kd.R_reads' HO607.out).2.1); (case side3 => repeat (exact (Kd.R_reads' HO611.out).2.2)); (case side4 => exact (Kd.R_reads' HO611.out).2.1); rintro e w' ⟨rfl, ⟨nd, rfl⟩⟩))
               go_ret
               exact ⟨by rfl, by repeat ((with_reducible first | exact HB.out | apply pw_below_drewN))⟩
             ·rw [if_neg c43] at H
              have c43b0 : (t605 == t609) = false := beq_eq_false_iff_ne.mpr c43
              have c43b1 : (t605 != t609) = true := bne_iff_ne.mpr c43
              obtain rfl := Option.some.inj H
              go_wp2_with (first | ((with_reducible refine gate_callee (f := 38) rfl ?_); refine goesL_ (some 107) rfl rfl Try.func38 (by kernel_rfl) rfl #[.slice A2 l2.length c2, .string a4, .string a5] rfl (by (try simp only [lm]); rfl) ?_; (with_reducible refine (e_WhereText.calls kj35 _ _ l2 a4 a5 t604 t605 _ ?side1 ?side2 A41.out).mono ?_); (case side1 => repeat (exact (Kd.C_below HR2.out HB.out))); (case side2 => exact HC2.out); rintro e w56 ⟨v606, rfl, ho0, hb⟩; refine ⟨_, rfl, ?_⟩; have n0_ := Ak (Kd.R_lower ho0 (below_size (by exact HB.out))); have n1_ := Ak (below_step (by exact HB.out) hb); clear HB; have HO607 := n0_; have HB := n1_; clear n0_ n1_; (try clear hb); (try clear ho0)) | ((with_reducible refine gate_callee (f := 49) rfl ?_); refine goesL_ (some 114) rfl rfl Try.func49 (by kernel_rfl) rfl #[.slice A2 l2.length c2, .string a4, .string a5] rfl (by (try simp only [lm]); rfl) ?_; (with_reducible refine (q_WhereText.calls kj35 _ _ l2 a4 a5 t608 t609 _ ?side1 ?side2 A42.out).mono ?_); (case side1 => repeat (exact (Kd.C_below HR2.out HB.out))); (case side2 => exact HC2.out); rintro e w57 ⟨v610, rfl, ho0, hb⟩; refine ⟨_, rfl, ?_⟩; have n0_ := Ak (Kd.R_elder' (by exact HO607.out) (Kd.R_base ho0) hb); have n1_ := Ak (Kd.R_lower (Kd.R_new' ho0 (Kd.R_lt (by exact HO607.out))) (below_size (by exact HB.out))); have n2_ := Ak (below_step (by exact HB.out) hb); clear HO607 HB; have HO607 := n0_; have HO611 := n1_; have HB := n2_; clear n0_ n1_ n2_; (try clear hb); (try clear ho0)))
              go_ret
              exact ⟨by rfl, by exact HB.out⟩
end Go.Proofs.Ythhdihnaicggiaa.D
