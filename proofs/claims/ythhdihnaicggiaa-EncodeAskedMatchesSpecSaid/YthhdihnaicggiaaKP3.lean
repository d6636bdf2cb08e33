/- Printed by a program of this session: Lean functions that answer as the Go functions do, with the proofs of it. No conditions beyond those in each theorem. -/
import Derived.Test.YthhdihnaicggiaaKP2
namespace Go.Proofs.Ythhdihnaicggiaa.K
open Go.RowKit Go.Proofs.YthhdihnaicggiaaW.PrintWords Go.Proofs.YthhdihnaicggiaaW.PrintLast Go.Proofs.YthhdihnaicggiaaW.PrintMore
attribute [local go_sem] max2_int min2_int max_two min_two max_three min_three max_four min_four   -- for this text's walks alone
set_option linter.unusedVariables false
set_option linter.unusedSimpArgs false
mutual
def q_reader_unpacked.j0 : Nat → Int → Int → Bool → List Int → Bool → Option (List Int × List Int × Bool)
 | 0, _, _, _, _, _ => none
 | k + 1, x1, x2, x24, x1000, x1001 => if x24 = true then (some (([] : List Int), x1000, true)) else (if 0 ≤ x1 then (if (x1 : Int).toNat ≤ 35184372088832 then ((some (List.replicate (x1 : Int).toNat 0 : List Int)).bind fun y580 => (q_reader_unpacked.l0 k x1 x2 y580 0 (y580.length : Int) 0 x1000 x1001)) else (none)) else (none))
def q_reader_unpacked.l0 : Nat → Int → Int → List Int → Int → Int → Int → List Int → Bool → Option (List Int × List Int × Bool)
 | 0, _, _, _, _, _, _, _, _ => none
 | k + 1, x1, x2, x7, x8, x31, x32, x1000, x1001 => if x32 < x31 then (q_reader_unpacked.l1 k x1 x2 x7 x8 x32 x31 x32 x2 0 x1000 x1001) else (if 0 ≤ (wrap64 (Int.tdiv (wrap64 ((wrap64 (x1 * x2)) + 7)) 8)) then (if (wrap64 (Int.tdiv (wrap64 ((wrap64 (x1 * x2)) + 7)) 8)) ≤ (x1000.length : Int) then (some (x7, x1000.drop ((wrap64 (Int.tdiv (wrap64 ((wrap64 (x1 * x2)) + 7)) 8)) : Int).toNat, x1001)) else (none)) else (none))
def q_reader_unpacked.l1 : Nat → Int → Int → List Int → Int → Int → Int → Int → Int → Int → List Int → Bool → Option (List Int × List Int × Bool)
 | 0, _, _, _, _, _, _, _, _, _, _, _ => none
 | k + 1, x1, x2, x7, x8, x9, x31, x32, x35, x36, x1000, x1001 => if x36 < x35 then (if 0 ≤ x9 then (if x9 < (x7.length : Int) then (if 0 ≤ (wrap64 (Int.tdiv x8 8)) then (if (wrap64 (Int.tdiv x8 8)) < (x1000.length : Int) then (if 0 ≤ (wrap64 (7 - (Int.tmod x8 8))) then (q_reader_unpacked.l1 k x1 x2 (x7.set (x9 : Int).toNat (Go.bits .or .i64 (wrap64 ((rd x7 x9) * 2)) (wrap64 (Go.bits .and .u8 (shr .u8 (rd x1000 (wrap64 (Int.tdiv x8 8))) (wrap64 (7 - (Int.tmod x8 8)))) 1)))) (wrap64 (x8 + 1)) x9 x31 x32 x35 (wrap64 (x36 + 1)) x1000 x1001) else (none)) else (none)) else (none)) else (none)) else (none)) else (q_reader_unpacked.l0 k x1 x2 x7 x8 x31 (wrap64 (x32 + 1)) x1000 x1001)
end
def q_reader_unpacked.f (k : Nat) (s0_0 : List Int) (s0_1 : Bool) (a1 : Int) (a2 : Int) : Option (List Int × List Int × Bool) := if a2 > 60 then (q_reader_unpacked.j0 k a1 a2 true s0_0 s0_1) else (q_reader_unpacked.j0 k a1 a2 (decide ((wrap64 (Int.tdiv (wrap64 ((wrap64 (a1 * a2)) + 7)) 8)) > (s0_0.length : Int))) s0_0 s0_1)
theorem q_reader_unpacked.mono_l : ∀ k, (∀ y0 y1 y2 y3 y4, LeO (q_reader_unpacked.j0 k y0 y1 y2 y3 y4) (q_reader_unpacked.j0 (k + 1) y0 y1 y2 y3 y4)) ∧ (∀ y0 y1 y2 y3 y4 y5 y6 y7, LeO (q_reader_unpacked.l0 k y0 y1 y2 y3 y4 y5 y6 y7) (q_reader_unpacked.l0 (k + 1) y0 y1 y2 y3 y4 y5 y6 y7)) ∧ (∀ y0 y1 y2 y3 y4 y5 y6 y7 y8 y9 y10, LeO (q_reader_unpacked.l1 k y0 y1 y2 y3 y4 y5 y6 y7 y8 y9 y10) (q_reader_unpacked.l1 (k + 1) y0 y1 y2 y3 y4 y5 y6 y7 y8 y9 y10))
 | 0 => ⟨fun _ _ _ _ _ r h => by simp [q_reader_unpacked.j0] at h, fun _ _ _ _ _ _ _ _ r h => by simp [q_reader_unpacked.l0] at h, fun _ _ _ _ _ _ _ _ _ _ _ r h => by simp [q_reader_unpacked.l1] at h⟩
 | k + 1 => by
  obtain ⟨ih0, ih1, ih2⟩ := q_reader_unpacked.mono_l k
  refine ⟨?_, ?_, ?_⟩ <;> intros
  all_goals (first | unfold q_reader_unpacked.j0 | unfold q_reader_unpacked.l0 | unfold q_reader_unpacked.l1)
  all_goals
   repeat' first
   | (with_reducible exact ih1 _ _ _ _ _ _ _ _)
   | (with_reducible exact ih2 _ _ _ _ _ _ _ _ _ _ _)
   | (with_reducible exact LeO.refl _)
   | (with_reducible refine LeO.ite ?_ ?_)
   | (with_reducible refine LeO.bind ?_ (fun _ => ?_))
theorem q_reader_unpacked.mono : ∀ a0 a1 a2 a3 k, LeO (q_reader_unpacked.f k a0 a1 a2 a3) (q_reader_unpacked.f (k + 1) a0 a1 a2 a3) := by
 intro a0 a1 a2 a3 k
 obtain ⟨ih0, ih1, ih2⟩ := q_reader_unpacked.mono_l k
 unfold q_reader_unpacked.f
 repeat' first
  | (with_reducible exact ih0 _ _ _ _ _)
  | (with_reducible refine LeO.ite ?_ ?_)
def q_reader_unpacked.T11 : Bool × List (List Nat × List Nat) := (true, [([], []), ([], []), ([], []), ([], []), ([2, 3], [2, 3]), ([4], [4]), ([5], [5]), ([], []), ([7], [7]), ([8], [8]), ([9], [9]), ([], []), ([11], [11]), ([10, 12], [10, 12]), ([13], [13]), ([], []), ([15], [15]), ([16], [16]), ([14, 17], [14, 17]), ([18], [18]), ([19], [19]), ([6, 20], [6, 20]), ([0, 1, 0, 1, 2, 3, 4, 5, 6, 7, 8, 9, 10, 11, 12, 13, 14, 15, 16, 17, 18, 19, 20, 21], [0, 1]), ([22, 21, 0, 1, 2, 3, 4, 5, 6, 7, 8, 9, 10, 11, 12, 13, 14, 15, 16, 17, 18, 19, 20, 21], [21, 22])])
def q_reader_unpacked.B11 : List Nat := [0, 0, 0, 0, 12, 28, 60, 0, 128, 384, 896, 0, 2048, 8064, 16256, 0, 32768, 98304, 262016, 524160, 1048448, 2097148, 4194303, 8388607]
theorem q_reader_unpacked.tab11 : rtab .any (opsOf Try.f89 11) = q_reader_unpacked.T11 := by kernel_rfl
theorem q_reader_unpacked.bits11 : waitsOk q_reader_unpacked.T11.2 q_reader_unpacked.B11 = true := by kernel_rfl
set_option maxHeartbeats 8000000 in
set_option maxRecDepth 100000 in
theorem q_reader_unpacked.calls (k : Nat) (g : Nat) (s0_0 : List Int) (s0_1 : Bool) (a1 : Int) (a2 : Int) (r1 : List Int) (r2 : List Int) (r3 : Bool) (w0 w : World) (hI : IsS75 w0 w g s0_0 s0_1) (hB : Below w0.heap.size w0 w) (h : q_reader_unpacked.f k s0_0 s0_1 a1 a2 = some (r1, r2, r3)) :
 Calls Try.prog 89 #[.pointer (some ⟨g, 0, none⟩), .int .i64 a1, .int .i64 a2] w fun e w' => ∃ v0_ : Value, e = .returned (v0_) ∧ Kd.R (Kd.int .i64) 3 w' w.heap.size (fun _ => True) v0_ r1 ∧ IsS75 w0 w' g r2 r3 ∧ Below w0.heap.size w0 w' ∧ KeepBut w w' g none := by
 have HI0 := Ak hI
 have HK := Ak (KeepBut.refl w g none)
 have HL := Ak hB.size
 clear hI
 have HW0 := Ak hB.size
 have HB := Ak hB
 have HBZ := Ak hB
 clear hB
 have H : (if a2 > 60 then (q_reader_unpacked.j0 k a1 a2 true s0_0 s0_1) else (q_reader_unpacked.j0 k a1 a2 (decide ((wrap64 (Int.tdiv (wrap64 ((wrap64 (a1 * a2)) + 7)) 8)) > (s0_0.length : Int))) s0_0 s0_1)) = some (r1, r2, r3) := h
 clear h
 have HC4 := Ak H
 clear H
 go_enter Try.func89, Try.ntmps89
 go_upto_region 1 with (fail)
 go_cut [24] (fun v24 wc => ∃ (kq : Nat) (x24_3 : Bool), v24 = .bool x24_3 ∧ Aside0 (q_reader_unpacked.j0 kq a1 a2 x24_3 s0_0 s0_1 = some (r1, r2, r3)) ∧ Aside0 (kq ≤ k) ∧ Aside0 (IsS75 w0 wc g s0_0 s0_1) ∧ Aside0 (KeepBut w wc g none) ∧ Aside0 (Below w0.heap.size w0 wc))
 case first =>
  have H := HC4.out
  clear HC4
  by_cases c5 : a2 > 60
  ·rw [if_pos c5] at H
   have c5b0 : decide (60 < a2) = true := decide_eq_true c5
   clear c5
   (skip)
   (try rw [c5b1])
   have H' := Ak H
   clear H
   go_wp2
   go_meet
   case rel => exact ⟨_, (true), (by rfl), H', ⟨by omega⟩, ⟨by exact HI0.out⟩, ⟨by exact HK.out⟩, ⟨by exact HB.out⟩⟩
  ·rw [if_neg c5] at H
   have c5b0 : decide (60 < a2) = false := decide_eq_false c5
   clear c5
   (skip)
   (try rw [c5b1])
   have H' := Ak H
   clear H
   obtain ⟨ASz6_0, cSz6_0, HGz6, hgz6, HSz6_0⟩ := HI0.out
   have hcz6_0 := cellS75_0 HGz6
   have hcz6_1 := cellS75_1 HGz6
   have hfz6_0 := blk_frozen HGz6 0
   have hfz6_1 := blk_frozen HGz6 1
   have HCSz6_0 := HSz6_0.1
   replace HSz6_0 := HSz6_0.2
   clear HGz6 hgz6
   go_wp2
   go_meet
   case rel => exact ⟨_, (decide ((wrap64 (Int.tdiv (wrap64 ((wrap64 (a1 * a2)) + 7)) 8)) > (s0_0.length : Int))), (by rfl), H', ⟨by omega⟩, ⟨by exact HI0.out⟩, ⟨by exact HK.out⟩, ⟨by exact HB.out⟩⟩
 case rest =>
  clear HC4
  obtain ⟨kq, x24_3, rfl, HA, HJ3, HI0, HK, HB⟩ := hcut
  cases kq with
  | zero => exact absurd HA.out (by simp [q_reader_unpacked.j0])
  | succ kj3 =>
   have H := HA.out
   clear HA
   simp only [q_reader_unpacked.j0] at H
   by_cases c7 : x24_3 = true
   ·subst c7
    replace H : (some (([] : List Int), s0_0, true)) = some (r1, r2, r3) := by rw [if_pos rfl] at H; exact H
    simp only [Option.some.injEq, Prod.mk.injEq] at H
    obtain ⟨rfl, rfl, rfl⟩ := H
    obtain ⟨ASz8_0, cSz8_0, HGz8, hgz8, HSz8_0⟩ := HI0.out
    have hcz8_0 := cellS75_0 HGz8
    have hcz8_1 := cellS75_1 HGz8
    have hfz8_0 := blk_frozen HGz8 0
    have hfz8_1 := blk_frozen HGz8 1
    have HCSz8_0 := HSz8_0.1
    replace HSz8_0 := HSz8_0.2
    clear HGz8 hgz8
    go_wp2
    go_ret
    exact ⟨_, by rfl, by exact Kd.R_nil _ _ _ _ _, by repeat ((with_reducible first | exact HI0.out | apply IsS75.set_1)), by repeat ((with_reducible first | exact HB.out | refine below_set ?_ (IsS75.ge HI0.out))), by repeat ((with_reducible first | exact HK.out | apply KeepBut.set_ ))⟩
   ·replace c7 := Bool.eq_false_iff.mpr c7
    subst c7
    replace H : (if 0 ≤ a1 then (if (a1 : Int).toNat ≤ 35184372088832 then ((some (List.replicate (a1 : Int).toNat 0 : List Int)).bind fun y580 => (q_reader_unpacked.l0 kj3 a1 a2 y580 0 (y580.length : Int) 0 s0_0 s0_1)) else (none)) else (none)) = some (r1, r2, r3) := by rw [if_neg (show ¬ (false = true) by decide)] at H; exact H
    by_cases c9 : 0 ≤ a1
    ·rw [if_pos c9] at H
     have c9b0 := eq_true c9
     have c9b1 : decide (0 ≤ a1) = true := decide_eq_true c9
     clear c9
     by_cases c10 : (a1 : Int).toNat ≤ 35184372088832
     ·rw [if_pos c10] at H
      have c10b0 := eq_true c10
      have c10b1 : decide ((a1 : Int).toNat ≤ 35184372088832) = true := decide_eq_true c10
      clear c10
      obtain ⟨y580, hy580⟩ : ∃ y_ : List Int, y_ = (List.replicate (a1 : Int).toNat 0) := ⟨_, rfl⟩
      replace H : (q_reader_unpacked.l0 kj3 a1 a2 y580 0 (y580.length : Int) 0 s0_0 s0_1) = some (r1, r2, r3) := by (have H2_ := (Option.bind_some _ _).symm.trans H; rw [hy580]; with_reducible exact H2_)
      have Ny580 := Ak hy580
      clear hy580
      have H' := Ak H
      clear H
      go_wp2_with (first | ((with_reducible refine gate_dst (N := 29) rfl ?_); (try (refine gate_guard (by rfl) ?_; dsimp only)); refine Kd.R_make (Kd.int .i64) _ 3 rfl (N := 29) rfl 22 _ _ rfl a1 rfl rfl Try.underlying22 (.int .i64 0) 8 info3 rfl (by decide) (by omega) 0 (ok := fun _ => True) (okp := fun _ => True) rfl (fun _ hk => hk) trivial (of_decide_eq_true (by (with_reducible assumption))) (Nat.le_trans (Nat.mul_le_mul_right _ (of_decide_eq_true (by (with_reducible assumption)) : a1.toNat ≤ 35184372088832)) (by omega)) (Below.refl _ _) (Nat.le_refl _) ?_; intro v581 w11 ho12 hb hg_ hnew_; clear hg_ hnew_; (rw [← Ny580.out] at ho12); have n0_ := Ak (Kd.R_lower ho12 (keep_size (w := w) (g := g) (row := none) (by exact HK.out))); have n1_ := Ak (IsS75.below (by exact HI0.out) hb); have n2_ := Ak (KeepBut.trans (by exact HK.out) (KeepBut.of_below hb g none) (.inl rfl)); have n3_ := Ak (below_step (by exact HB.out) hb); clear HI0 HK HB; have HO582 := n0_; have HI0 := n1_; have HK := n2_; have HB := n3_; clear n0_ n1_ n2_ n3_ hb ho12; obtain ⟨Ao13, co13, eo13⟩ := Kd.R_slice HO582.out; subst eo13))
      go_loopg [8, 32] kj3 (fun kq v8 v32 w' => ∃ (x7_2 : List Int) (x8_2 : Int) (x32_2 : Int), v8 = .int .i64 x8_2 ∧ v32 = .int .i64 x32_2 ∧ Aside0 (q_reader_unpacked.l0 kq a1 a2 x7_2 x8_2 (y580.length : Int) x32_2 s0_0 s0_1 = some (r1, r2, r3)) ∧ Aside0 (kq ≤ kj3) ∧ Aside0 (Kd.R (Kd.int .i64) 3 w' w.heap.size (fun _ => True) (.slice Ao13 y580.length co13) x7_2) ∧ Aside0 (IsS75 w0 w' g s0_0 s0_1) ∧ Aside0 (KeepBut w w' g none) ∧ Aside0 (Below w0.heap.size w0 w'))
      case atStart => exact ⟨(y580), (0), (0), (by rfl), (by rfl), H', ⟨Nat.le_refl _⟩, ⟨by exact HO582.out⟩, ⟨by exact HI0.out⟩, ⟨by exact HK.out⟩, ⟨by exact HB.out⟩⟩
      case round =>
       clear H'
       try clear c9b0
       try clear c9b1
       try clear c10b0
       try clear c10b1
       obtain ⟨x7_2, x8_2, x32_2, rfl, rfl, HA, HK2, HO_7, HI0, HK, HB⟩ := hrel
       have hl7_2 := (Kd.R_reads' HO_7.out).1
       rw [hl7_2] at HO_7
       (try simp only [hl7_2])
       cases gk with
       | zero => exact absurd HA.out (by simp [q_reader_unpacked.l0])
       | succ k2 =>
        have H := HA.out
        clear HA
        simp only [q_reader_unpacked.l0] at H
        by_cases c14 : x32_2 < (y580.length : Int)
        ·rw [if_pos c14] at H
         have c14b0 : decide (x32_2 < (y580.length : Int)) = true := decide_eq_true c14
         have c14l0 := c14b0
         (try rw [hl7_2] at c14l0)
         clear c14
         have H' := Ak H
         clear H
         go_wp2
         go_loopg [8, 36] k2 (fun kq v8 v36 w' => ∃ (x7_3 : List Int) (x8_3 : Int) (x36_3 : Int), v8 = .int .i64 x8_3 ∧ v36 = .int .i64 x36_3 ∧ Aside0 (q_reader_unpacked.l1 kq a1 a2 x7_3 x8_3 x32_2 (y580.length : Int) x32_2 a2 x36_3 s0_0 s0_1 = some (r1, r2, r3)) ∧ Aside0 (kq ≤ k2) ∧ Aside0 (Kd.R (Kd.int .i64) 3 w' w.heap.size (fun _ => True) (.slice Ao13 x7_2.length co13) x7_3) ∧ Aside0 (IsS75 w0 w' g s0_0 s0_1) ∧ Aside0 (KeepBut w w' g none) ∧ Aside0 (Below w0.heap.size w0 w'))
         case atStart => exact ⟨(x7_2), (x8_2), (0), (by rfl), (by rfl), H', ⟨Nat.le_refl _⟩, ⟨by exact HO_7.out⟩, ⟨by exact HI0.out⟩, ⟨by exact HK.out⟩, ⟨by exact HB.out⟩⟩
         case round =>
          clear H'
          try clear c14b0
          obtain ⟨x7_3, x8_3, x36_3, rfl, rfl, HA, HK3, HO_7, HI0, HK, HB⟩ := hrel
          have hl7_3 := (Kd.R_reads' HO_7.out).1
          rw [hl7_3] at HO_7
          (try simp only [hl7_3])
          cases gk with
          | zero => exact absurd HA.out (by simp [q_reader_unpacked.l1])
          | succ k3 =>
           have H := HA.out
           clear HA
           simp only [q_reader_unpacked.l1] at H
           by_cases c15 : x36_3 < a2
           ·rw [if_pos c15] at H
            have c15b0 : decide (x36_3 < a2) = true := decide_eq_true c15
            clear c15
            by_cases c16 : 0 ≤ x32_2
            ·rw [if_pos c16] at H
             have c16b0 : decide (0 ≤ x32_2) = true := decide_eq_true c16
             clear c16
             by_cases c17 : x32_2 < (x7_3.length : Int)
             ·rw [if_pos c17] at H
              have c17b0 : decide (x32_2 < (x7_3.length : Int)) = true := decide_eq_true c17
              have c17l0 := c17b0
              (try rw [hl7_2] at c17l0)
              (try rw [hl7_3] at c17l0)
              clear c17
              obtain ⟨ji18, hji18⟩ : ∃ j_ : Int, (wrap64 (Int.tdiv x8_3 8)) = j_ := ⟨_, rfl⟩
              replace H : (if 0 ≤ (ji18) then (if (ji18) < (s0_0.length : Int) then (if 0 ≤ (wrap64 (7 - (Int.tmod x8_3 8))) then (q_reader_unpacked.l1 k3 a1 a2 (x7_3.set (x32_2 : Int).toNat (Go.bits .or .i64 (wrap64 ((rd x7_3 x32_2) * 2)) (wrap64 (Go.bits .and .u8 (shr .u8 (rd s0_0 (ji18)) (wrap64 (7 - (Int.tmod x8_3 8)))) 1)))) (wrap64 (x8_3 + 1)) x32_2 (y580.length : Int) x32_2 a2 (wrap64 (x36_3 + 1)) s0_0 s0_1) else (none)) else (none)) else (none)) = some (r1, r2, r3) := by (rw [hji18] at H; exact H)
              have hji18w : (IntKind.i64.wrap (Int.tdiv x8_3 8)) = ji18 := (i64_w _).trans hji18
              by_cases c19 : 0 ≤ (ji18)
              ·rw [if_pos c19] at H
               have c19b0 : decide (0 ≤ (ji18)) = true := decide_eq_true c19
               clear c19
               by_cases c20 : (ji18) < (s0_0.length : Int)
               ·rw [if_pos c20] at H
                have c20b0 : decide ((ji18) < (s0_0.length : Int)) = true := decide_eq_true c20
                have c20l0 := c20b0
                (try rw [hl7_2] at c20l0)
                (try rw [hl7_3] at c20l0)
                clear c20
                obtain ⟨ji21, hji21⟩ : ∃ j_ : Int, (wrap64 (7 - (Int.tmod x8_3 8))) = j_ := ⟨_, rfl⟩
                replace H : (if 0 ≤ (ji21) then (q_reader_unpacked.l1 k3 a1 a2 (x7_3.set (x32_2 : Int).toNat (Go.bits .or .i64 (wrap64 ((rd x7_3 x32_2) * 2)) (wrap64 (Go.bits .and .u8 (shr .u8 (rd s0_0 (ji18)) (ji21)) 1)))) (wrap64 (x8_3 + 1)) x32_2 (y580.length : Int) x32_2 a2 (wrap64 (x36_3 + 1)) s0_0 s0_1) else (none)) = some (r1, r2, r3) := by (rw [hji21] at H; exact H)
                have hji21w : (IntKind.i64.wrap (7 - (Int.tmod x8_3 8))) = ji21 := (i64_w _).trans hji21
                by_cases c22 : 0 ≤ (ji21)
                ·rw [if_pos c22] at H
                 have c22b0 := eq_true c22
                 have c22b1 : decide (0 ≤ (ji21)) = true := decide_eq_true c22
                 clear c22
                 obtain ⟨ji23, hji23⟩ : ∃ j_ : Int, (shr .u8 (rd s0_0 (ji18)) (ji21)) = j_ := ⟨_, rfl⟩
                 replace H : (q_reader_unpacked.l1 k3 a1 a2 (x7_3.set (x32_2 : Int).toNat (Go.bits .or .i64 (wrap64 ((rd x7_3 x32_2) * 2)) (wrap64 (Go.bits .and .u8 (ji23) 1)))) (wrap64 (x8_3 + 1)) x32_2 (y580.length : Int) x32_2 a2 (wrap64 (x36_3 + 1)) s0_0 s0_1) = some (r1, r2, r3) := by (rw [hji23] at H; exact H)
                 have hji23_ : ((rd s0_0 (ji18)) / 2 ^ min (ji21).toNat 8) = ji23 := hji23
                 have hji23z : (ji21) ≤ 8 → ((rd s0_0 (ji18)) / 2 ^ (ji21).toNat) = ji23 := shr_small hji23
                 obtain ⟨y586, hy586⟩ : ∃ y_ : List Int, y_ = (x7_3.set (x32_2 : Int).toNat (Go.bits .or .i64 (wrap64 ((rd x7_3 x32_2) * 2)) (wrap64 (Go.bits .and .u8 (ji23) 1)))) := ⟨_, rfl⟩
                 replace H : (q_reader_unpacked.l1 k3 a1 a2 y586 (wrap64 (x8_3 + 1)) x32_2 (y580.length : Int) x32_2 a2 (wrap64 (x36_3 + 1)) s0_0 s0_1) = some (r1, r2, r3) := by (rw [hy586]; with_reducible exact H)
                 have Ny586 := Ak hy586
                 clear hy586
                 have H' := Ak H
                 clear H
                 try go_wp2
                 have n0_ := Ak (Kd.R_drew HO_7.out)
                 have n1_ := Ak (IsS75.drew HI0.out)
                 have n2_ := Ak (keep_drew HK.out)
                 have n3_ := Ak (below_drew1 HB.out)
                 clear HO_7 HI0 HK HB
                 have HO_7 := n0_
                 have HI0 := n1_
                 have HK := n2_
                 have HB := n3_
                 clear n0_ n1_ n2_ n3_
                 have p584 : 0 ≤ (x32_2 : Int) := of_decide_eq_true (by (with_reducible assumption))
                 have q584 : x32_2 < (x7_3.length : Int) := of_decide_eq_true (by (with_reducible assumption))
                 obtain ⟨ad584, e584, hx584_0⟩ := Kd.at_int (Kd.R_reads' HO_7.out).2.2 x32_2 p584 q584
                 cases e584
                 replace p584 := eq_true p584
                 replace q584 := eq_true q584
                 obtain ⟨ASz26_0, cSz26_0, HGz26, hgz26, HSz26_0⟩ := HI0.out
                 have hcz26_0 := cellS75_0 HGz26
                 have hcz26_1 := cellS75_1 HGz26
                 have hfz26_0 := blk_frozen HGz26 0
                 have hfz26_1 := blk_frozen HGz26 1
                 have HCSz26_0 := HSz26_0.1
                 replace HSz26_0 := HSz26_0.2
                 clear HGz26 hgz26
                 have HRsrz26_0 := Ak (Kd.C_below HSz26_0 HBZ.out)
                 have hfsrz26_0 : ∀ ad : Addr, ASz26_0 = some ad → 0 < s0_0.length → ad.block ≠ g := Kd.far_C 0 HSz26_0 (IsS75.ge HI0.out)
                 have p585 : 0 ≤ ((ji18) : Int) := of_decide_eq_true (by (with_reducible assumption))
                 have q585 : (ji18) < (s0_0.length : Int) := of_decide_eq_true (by (with_reducible assumption))
                 obtain ⟨ad585, e585, hx585_0⟩ := Kd.at_int HRsrz26_0.out (ji18) p585 q585
                 have hw585_0 := hx585_0
                 cases e585
                 have hne585_0 := (show ((ad585.add ((ji18)).toNat) : Addr).block ≠ g from by (rw [add_block]; exact hfsrz26_0 ad585 rfl (by omega)))
                 replace hx585_0 := keep_cell HK.out hx585_0 (by (rw [add_block]; exact hfsrz26_0 _ rfl (by omega)))
                 replace p585 := eq_true p585
                 replace q585 := eq_true q585
                 have p24 : 0 ≤ (x32_2 : Int) := of_decide_eq_true (by (with_reducible assumption))
                 have q24 : (x32_2 : Int) < ((x7_3.length : Int) : Int) := of_decide_eq_true (by (with_reducible assumption))
                 obtain ⟨go24, co24, eo24, gb24, gl24, cl24, HG24⟩ := Kd.R_form HO_7.out (by omega)
                 (cases eo24)
                 have GB24 := Ak gb24
                 have GG24 := Ak HG24
                 clear gb24 gl24 HG24
                 (simp only [add_plain] at hx584_0)
                 obtain ⟨hx24_0, hf24_0⟩ := Kd.R_celln 0 HO_7.out (x32_2 : Int) p24 q24
                 replace p24 := eq_true p24
                 replace q24 := eq_true q24
                 have HN0_go24 := Ak (show g ≠ go24 from by have h_ := IsS75.own_ne HI0.out HO_7.out (by decide); intro e_; exact h_ (by rw [e_]; rfl))
                 have HP27 := Kd.R_putn HO_7.out (x32_2 : Int) (Go.bits .or .i64 (wrap64 ((rd x7_3 x32_2) * 2)) (wrap64 (Go.bits .and .u8 (ji23) 1)))
                 rw [← Ny586.out] at HP27
                 have HQ27 := Ak HP27
                 clear HP27
                 refine start_ (n := 24) (S := fun w' => w'.cell? ⟨g, 0, none⟩ = some (.slice (some ad585) s0_0.length cSz26_0) ∧ w'.cell? ⟨g, 1, none⟩ = some (.bool s0_1) ∧ w'.cell? ⟨go24, (x32_2).toNat, none⟩ = some (.int .i64 (rd x7_3 x32_2)) ∧ w'.cell? (ad585.add ((ji18)).toNat) = some (.int .u8 (rd s0_0 (ji18)))) (ds := [23]) #[false, false, false, false, false, false, false, false, false, false, false, false, false, false, false, false, false, false, false, false, false, false, false, false] (by kernel_rfl) rfl rfl ⟨hcz26_0, hcz26_1, hx584_0, (keep_cell HK.out hw585_0 hne585_0)⟩ (fun hHeld => ?_); refine with_tabW q_reader_unpacked.tab11 q_reader_unpacked.bits11 (fun HT_ HW_ => ?_)
                 generalize wr.drew = w25 at HO_7 HI0 HK HB GG24 HQ27 hf24_0 hx24_0 hx584_0 hx585_0 hHeld ⊢
                 refine pure_ (i := 0) (N := some 38) (v := ?_) (a' := ?_) #[true, false, false, false, false, false, false, false, false, false, false, false, false, false, false, false, false, false, false, false, false, false, false, false] rfl rfl (any_of HT_.out (by kernel_rfl)) (fun _ _ _ h => h) (Or.inl ⟨by rfl, ?_⟩) ?_ ?_
                 rotate_left
                 ·intro w'
                  go_simp
                  with_reducible rfl
                 rotate_left
                 ·simp only [Act.put, List.setIfInBounds_toArray, List.set_cons_zero, List.set_cons_succ, i64_w, i32_w]
                  rfl
                 refine pure_ (i := 1) (N := some 39) (v := ?_) (a' := ?_) #[true, true, false, false, false, false, false, false, false, false, false, false, false, false, false, false, false, false, false, false, false, false, false, false] rfl rfl (any_of HT_.out (by kernel_rfl)) (fun _ _ _ h => h) (Or.inl ⟨by rfl, ?_⟩) ?_ ?_
                 rotate_left
                 ·intro w'
                  go_simp
                  with_reducible rfl
                 rotate_left
                 ·simp only [Act.put, List.setIfInBounds_toArray, List.set_cons_zero, List.set_cons_succ, i64_w, i32_w]
                  rfl
                 refine pure_ (i := 2) (N := some 40) (v := ?_) (a' := ?_) #[true, true, true, false, false, false, false, false, false, false, false, false, false, false, false, false, false, false, false, false, false, false, false, false] rfl rfl (any_of HT_.out (by kernel_rfl)) (fun _ _ _ h => h) (Or.inl ⟨by rfl, ?_⟩) ?_ ?_
                 rotate_left
                 ·intro w'
                  go_simp
                  with_reducible rfl
                 rotate_left
                 ·simp only [Act.put, List.setIfInBounds_toArray, List.set_cons_zero, List.set_cons_succ, i64_w, i32_w]
                  rfl
                 refine pure_ (i := 3) (N := some 41) (v := ?_) (a' := ?_) #[true, true, true, true, false, false, false, false, false, false, false, false, false, false, false, false, false, false, false, false, false, false, false, false] rfl rfl (any_of HT_.out (by kernel_rfl)) (fun _ _ _ h => h) (Or.inl ⟨by rfl, ?_⟩) ?_ ?_
                 rotate_left
                 ·intro w'
                  go_simp
                  with_reducible rfl
                 rotate_left
                 ·simp only [Act.put, List.setIfInBounds_toArray, List.set_cons_zero, List.set_cons_succ, i64_w, i32_w]
                  rfl
                 refine pure_ (i := 4) (N := some 42) (v := ?_) (a' := ?_) #[true, true, true, true, true, false, false, false, false, false, false, false, false, false, false, false, false, false, false, false, false, false, false, false] rfl rfl (any_of HT_.out (by kernel_rfl)) (fun _ _ _ h => h) (Or.inl ⟨by rfl, ?_⟩) ?_ ?_
                 rotate_left
                 ·intro w'
                  go_simp
                  with_reducible rfl
                 rotate_left
                 ·simp only [Act.put, List.setIfInBounds_toArray, List.set_cons_zero, List.set_cons_succ, i64_w, i32_w]
                  rfl
                 refine pure_ (i := 7) (N := some 45) (v := ?_) (a' := ?_) #[true, true, true, true, true, false, false, true, false, false, false, false, false, false, false, false, false, false, false, false, false, false, false, false] rfl rfl (any_of HT_.out (by kernel_rfl)) (fun _ _ _ h => h) (Or.inl ⟨by rfl, ?_⟩) ?_ ?_
                 rotate_left
                 ·intro w'
                  go_simp
                  with_reducible rfl
                 rotate_left
                 ·simp only [Act.put, List.setIfInBounds_toArray, List.set_cons_zero, List.set_cons_succ, i64_w, i32_w]
                  rfl
                 refine pure_ (i := 8) (N := some 46) (v := ?_) (a' := ?_) #[true, true, true, true, true, false, false, true, true, false, false, false, false, false, false, false, false, false, false, false, false, false, false, false] rfl rfl (any_of HT_.out (by kernel_rfl)) (fun _ _ _ h => h) (Or.inl ⟨by rfl, ?_⟩) ?_ ?_
                 rotate_left
                 ·intro w'
                  go_simp
                  with_reducible rfl
                 rotate_left
                 ·simp only [Act.put, List.setIfInBounds_toArray, List.set_cons_zero, List.set_cons_succ, i64_w, i32_w]
                  rfl
                 refine pure_ (i := 9) (N := some 47) (v := ?_) (a' := ?_) #[true, true, true, true, true, false, false, true, true, true, false, false, false, false, false, false, false, false, false, false, false, false, false, false] rfl rfl (any_of HT_.out (by kernel_rfl)) (fun _ _ _ h => h) (Or.inl ⟨by rfl, ?_⟩) ?_ ?_
                 rotate_left
                 ·intro w'
                  go_simp
                  with_reducible rfl
                 rotate_left
                 ·simp only [Act.put, List.setIfInBounds_toArray, List.set_cons_zero, List.set_cons_succ, i64_w, i32_w]
                  rfl
                 refine pure_ (i := 11) (N := some 49) (v := ?_) (a' := ?_) #[true, true, true, true, true, false, false, true, true, true, false, true, false, false, false, false, false, false, false, false, false, false, false, false] rfl rfl (any_of HT_.out (by kernel_rfl)) (fun _ _ _ h => h) (Or.inl ⟨by rfl, ?_⟩) ?_ ?_
                 rotate_left
                 ·intro w'
                  go_simp
                  with_reducible rfl
                 rotate_left
                 ·simp only [Act.put, List.setIfInBounds_toArray, List.set_cons_zero, List.set_cons_succ, i64_w, i32_w]
                  rfl
                 refine pure_ (i := 12) (N := some 50) (v := ?_) (a' := ?_) #[true, true, true, true, true, false, false, true, true, true, false, true, true, false, false, false, false, false, false, false, false, false, false, false] rfl rfl (any_of HT_.out (by kernel_rfl)) (fun _ _ _ h => h) (Or.inl ⟨by rfl, ?_⟩) ?_ ?_
                 rotate_left
                 ·intro w'
                  go_simp
                  with_reducible rfl
                 rotate_left
                 ·simp only [Act.put, List.setIfInBounds_toArray, List.set_cons_zero, List.set_cons_succ, i64_w, i32_w]
                  rfl
                 refine pure_ (i := 15) (N := some 53) (v := ?_) (a' := ?_) #[true, true, true, true, true, false, false, true, true, true, false, true, true, false, false, true, false, false, false, false, false, false, false, false] rfl rfl (any_of HT_.out (by kernel_rfl)) (fun _ _ _ h => h) (Or.inl ⟨by rfl, ?_⟩) ?_ ?_
                 rotate_left
                 ·intro w'
                  go_simp
                  with_reducible rfl
                 rotate_left
                 ·simp only [Act.put, List.setIfInBounds_toArray, List.set_cons_zero, List.set_cons_succ, i64_w, i32_w]
                  rfl
                 refine pure_ (i := 16) (N := some 54) (v := ?_) (a' := ?_) #[true, true, true, true, true, false, false, true, true, true, false, true, true, false, false, true, true, false, false, false, false, false, false, false] rfl rfl (any_of HT_.out (by kernel_rfl)) (fun _ _ _ h => h) (Or.inl ⟨by rfl, ?_⟩) ?_ ?_
                 rotate_left
                 ·intro w'
                  go_simp
                  with_reducible rfl
                 rotate_left
                 ·simp only [Act.put, List.setIfInBounds_toArray, List.set_cons_zero, List.set_cons_succ, i64_w, i32_w]
                  rfl
                 refine pure_ (i := 17) (N := some 55) (v := ?_) (a' := ?_) #[true, true, true, true, true, false, false, true, true, true, false, true, true, false, false, true, true, true, false, false, false, false, false, false] rfl rfl (any_of HT_.out (by kernel_rfl)) (fun _ _ _ h => h) (Or.inl ⟨by rfl, ?_⟩) ?_ ?_
                 rotate_left
                 ·intro w'
                  go_simp
                  with_reducible rfl
                 rotate_left
                 ·simp only [Act.put, List.setIfInBounds_toArray, List.set_cons_zero, List.set_cons_succ, i64_w, i32_w]
                  rfl
                 refine take_ (i := 5) (N := some 43) (v := ?_) (a' := ?_) #[true, true, true, true, true, true, false, true, true, true, false, true, true, false, false, true, true, true, false, false, false, false, false, false] rfl rfl (take_ofW HT_.out HW_.out (by kernel_rfl)) (fun _ _ _ h => h) (Or.inl ⟨by rfl, ?_⟩) hHeld ?_ ?_
                 rotate_left
                 ·rintro w' ⟨s0, s1, s2, s3⟩
                  go_simp
                  with_reducible rfl
                 rotate_left
                 ·simp only [Act.put, List.setIfInBounds_toArray, List.set_cons_zero, List.set_cons_succ, i64_w, i32_w]
                  rfl
                 refine pure_ (i := 6) (N := some 44) (v := ?_) (a' := ?_) #[true, true, true, true, true, true, true, true, true, true, false, true, true, false, false, true, true, true, false, false, false, false, false, false] rfl rfl (any_of HT_.out (by kernel_rfl)) (fun _ _ _ h => h) (Or.inl ⟨by rfl, ?_⟩) ?_ ?_
                 rotate_left
                 ·intro w'
                  go_simp
                  with_reducible rfl
                 rotate_left
                 ·simp only [Act.put, List.setIfInBounds_toArray, List.set_cons_zero, List.set_cons_succ, i64_w, i32_w]
                  rfl
                 refine take_ (i := 10) (N := some 48) (v := ?_) (a' := ?_) #[true, true, true, true, true, true, true, true, true, true, true, true, true, false, false, true, true, true, false, false, false, false, false, false] rfl rfl (take_ofW HT_.out HW_.out (by kernel_rfl)) (fun _ _ _ h => h) (Or.inl ⟨by rfl, ?_⟩) hHeld ?_ ?_
                 rotate_left
                 ·rintro w' ⟨s0, s1, s2, s3⟩
                  go_simp
                  with_reducible rfl
                 rotate_left
                 ·simp only [Act.put, List.setIfInBounds_toArray, List.set_cons_zero, List.set_cons_succ, i64_w, i32_w]
                  rfl
                 refine pure_ (i := 13) (N := some 51) (v := ?_) (a' := ?_) #[true, true, true, true, true, true, true, true, true, true, true, true, true, true, false, true, true, true, false, false, false, false, false, false] rfl rfl (any_of HT_.out (by kernel_rfl)) (fun _ _ _ h => h) (Or.inl ⟨by rfl, ?_⟩) ?_ ?_
                 rotate_left
                 ·intro w'
                  go_simp
                  with_reducible rfl
                 rotate_left
                 ·simp only [Act.put, List.setIfInBounds_toArray, List.set_cons_zero, List.set_cons_succ, i64_w, i32_w]
                  rfl
                 refine take_ (i := 14) (N := some 52) (v := ?_) (a' := ?_) #[true, true, true, true, true, true, true, true, true, true, true, true, true, true, true, true, true, true, false, false, false, false, false, false] rfl rfl (take_ofW HT_.out HW_.out (by kernel_rfl)) (fun _ _ _ h => h) (Or.inl ⟨by rfl, ?_⟩) hHeld ?_ ?_
                 rotate_left
                 ·rintro w' ⟨s0, s1, s2, s3⟩
                  go_simp
                  with_reducible rfl
                 rotate_left
                 ·simp only [Act.put, List.setIfInBounds_toArray, List.set_cons_zero, List.set_cons_succ, i64_w, i32_w]
                  rfl
                 refine pure_ (i := 18) (N := some 56) (v := ?_) (a' := ?_) #[true, true, true, true, true, true, true, true, true, true, true, true, true, true, true, true, true, true, true, false, false, false, false, false] rfl rfl (any_of HT_.out (by kernel_rfl)) (fun _ _ _ h => h) (Or.inl ⟨by rfl, ?_⟩) ?_ ?_
                 rotate_left
                 ·intro w'
                  go_simp
                  with_reducible rfl
                 rotate_left
                 ·simp only [Act.put, List.setIfInBounds_toArray, List.set_cons_zero, List.set_cons_succ, i64_w, i32_w]
                  rfl
                 refine pure_ (i := 19) (N := some 57) (v := ?_) (a' := ?_) #[true, true, true, true, true, true, true, true, true, true, true, true, true, true, true, true, true, true, true, true, false, false, false, false] rfl rfl (any_of HT_.out (by kernel_rfl)) (fun _ _ _ h => h) (Or.inl ⟨by rfl, ?_⟩) ?_ ?_
                 rotate_left
                 ·intro w'
                  go_simp
                  with_reducible rfl
                 rotate_left
                 ·simp only [Act.put, List.setIfInBounds_toArray, List.set_cons_zero, List.set_cons_succ, i64_w, i32_w]
                  rfl
                 refine pure_ (i := 20) (N := some 58) (v := ?_) (a' := ?_) #[true, true, true, true, true, true, true, true, true, true, true, true, true, true, true, true, true, true, true, true, true, false, false, false] rfl rfl (any_of HT_.out (by kernel_rfl)) (fun _ _ _ h => h) (Or.inl ⟨by rfl, ?_⟩) ?_ ?_
                 rotate_left
                 ·intro w'
                  go_simp
                  with_reducible rfl
                 rotate_left
                 ·simp only [Act.put, List.setIfInBounds_toArray, List.set_cons_zero, List.set_cons_succ, i64_w, i32_w]
                  rfl
                 refine pure_ (i := 21) (N := some 59) (v := ?_) (a' := ?_) #[true, true, true, true, true, true, true, true, true, true, true, true, true, true, true, true, true, true, true, true, true, true, false, false] rfl rfl (any_of HT_.out (by kernel_rfl)) (fun _ _ _ h => h) (Or.inl ⟨by rfl, ?_⟩) ?_ ?_
                 rotate_left
                 ·intro w'
                  go_simp
                  with_reducible rfl
                 rotate_left
                 ·simp only [Act.put, List.setIfInBounds_toArray, List.set_cons_zero, List.set_cons_succ, i64_w, i32_w]
                  rfl
                 refine pure_ (i := 22) (N := some 60) (v := ?_) (a' := ?_) #[true, true, true, true, true, true, true, true, true, true, true, true, true, true, true, true, true, true, true, true, true, true, true, false] rfl rfl (any_of HT_.out (by kernel_rfl)) (fun _ _ _ h => h) (Or.inl ⟨by rfl, ?_⟩) ?_ ?_
                 rotate_left
                 ·intro w'
                  go_simp
                  with_reducible rfl
                 rotate_left
                 ·simp only [Act.put, List.setIfInBounds_toArray, List.set_cons_zero, List.set_cons_succ, i64_w, i32_w]
                  rfl
                 refine last_ (i := 23) (N := none) #[true, true, true, true, true, true, true, true, true, true, true, true, true, true, true, true, true, true, true, true, true, true, true, true] rfl rfl (one_of HT_.out (by kernel_rfl)) (by decide) (fun K hK => ?_)
                 refine skip_ (w1 := ?_) (by rfl) rfl ?_ ?_
                 rotate_left
                 ·go_simp
                  rfl
                 refine hK.out _ _ ?_
                 clear hK K
                 refine done_ (done_of HT_.out (by kernel_rfl)) ?_
                 try go_wp2
                 (try simp only [← hl7_3])
                 go_roundg k3
                 case measure => have := HJ3.out; have := HK2.out; have := HK3.out; omega
                 case rel => exact ⟨(y586), (wrap64 (x8_3 + 1)), (wrap64 (x36_3 + 1)), (by rfl), (by rfl), H', ⟨by have := HJ3.out; have := HK2.out; have := HK3.out; omega⟩, ⟨by (try simp only [hl7_3]); exact HQ27.out⟩, ⟨by repeat ((with_reducible first | exact HI0.out | refine IsS75.far ?_ HN0_go24.out _))⟩, ⟨by repeat ((with_reducible first | exact HK.out | refine keep_far ?_ GB24.out _))⟩, ⟨by repeat ((with_reducible first | exact HB.out | refine below_set ?_ (Nat.le_trans HL.out GB24.out)))⟩⟩
                ·rw [if_neg c22] at H
                 exact absurd H (by simp)
               ·rw [if_neg c20] at H
                exact absurd H (by simp)
              ·rw [if_neg c19] at H
               exact absurd H (by simp)
             ·rw [if_neg c17] at H
              exact absurd H (by simp)
            ·rw [if_neg c16] at H
             exact absurd H (by simp)
           ·rw [if_neg c15] at H
            have c15b0 : decide (x36_3 < a2) = false := decide_eq_false c15
            clear c15
            have H' := Ak H
            clear H
            go_wp2
            (try simp only [← hl7_2, ← hl7_3])
            go_roundg k3
            case measure => have := HJ3.out; have := HK2.out; have := HK3.out; omega
            case rel => exact ⟨(x7_3), (x8_3), (wrap64 (x32_2 + 1)), (by rfl), (by rfl), H', ⟨by have := HJ3.out; have := HK2.out; have := HK3.out; omega⟩, ⟨by (try simp only [hl7_2]); (try simp only [hl7_3]); exact HO_7.out⟩, ⟨by exact HI0.out⟩, ⟨by exact HK.out⟩, ⟨by exact HB.out⟩⟩
        ·rw [if_neg c14] at H
         have c14b0 : decide (x32_2 < (y580.length : Int)) = false := decide_eq_false c14
         have c14l0 := c14b0
         (try rw [hl7_2] at c14l0)
         clear c14
         obtain ⟨ji28, hji28⟩ : ∃ j_ : Int, (wrap64 (Int.tdiv (wrap64 ((wrap64 (a1 * a2)) + 7)) 8)) = j_ := ⟨_, rfl⟩
         replace H : (if 0 ≤ (ji28) then (if (ji28) ≤ (s0_0.length : Int) then (some (x7_2, s0_0.drop ((ji28) : Int).toNat, s0_1)) else (none)) else (none)) = some (r1, r2, r3) := by (rw [hji28] at H; exact H)
         have hji28w : (IntKind.i64.wrap (Int.tdiv (wrap64 ((wrap64 (a1 * a2)) + 7)) 8)) = ji28 := (i64_w _).trans hji28
         by_cases c29 : 0 ≤ (ji28)
         ·rw [if_pos c29] at H
          have c29b0 := eq_true c29
          have c29b1 : decide (0 ≤ (ji28)) = true := decide_eq_true c29
          clear c29
          by_cases c30 : (ji28) ≤ (s0_0.length : Int)
          ·rw [if_pos c30] at H
           have c30b0 := eq_true c30
           have c30b1 : decide ((ji28) ≤ (s0_0.length : Int)) = true := decide_eq_true c30
           clear c30
           simp only [Option.some.injEq, Prod.mk.injEq] at H
           obtain ⟨rfl, rfl, rfl⟩ := H
           obtain ⟨ASz31_0, cSz31_0, HGz31, hgz31, HSz31_0⟩ := HI0.out
           have hcz31_0 := cellS75_0 HGz31
           have hcz31_1 := cellS75_1 HGz31
           have hfz31_0 := blk_frozen HGz31 0
           have hfz31_1 := blk_frozen HGz31 1
           have HCSz31_0 := HSz31_0.1
           replace HSz31_0 := HSz31_0.2
           clear HGz31 hgz31
           have HRs32 := Ak (Kd.C_below HSz31_0 HBZ.out)
           have HCs32 := Ak HCSz31_0
           have hfs32 : ∀ ad : Addr, ASz31_0 = some ad → 0 < s0_0.length → ad.block ≠ g := Kd.far_C 0 HSz31_0 (IsS75.ge HI0.out)
           obtain ⟨i032, hi032, _, hsz32, _⟩ := info_parts info5
           obtain ⟨A32, hcut32, hA32, hC32⟩ := print_drop_of (P := Try.prog) (Value.int .u8) 0 27 5 .i64 Try.underlying27 hi032 hsz32 ASz31_0 cSz31_0 s0_0 (ji28) (of_decide_eq_true (by (with_reducible assumption))) (of_decide_eq_true (by (with_reducible assumption))) HCs32.out
           have HR583 := Ak (Kd.C_of_reads (h1 := fun _ => rfl) (hA32 _ (Kd.reads_of_C HRs32.out)))
           have HC583 := Ak hC32
           have hf583 : ∀ ad : Addr, A32 = some ad → 0 < (s0_0.drop ((ji28) : Int).toNat).length → ad.block ≠ g := fun ad he h_ => by cases he; exact Kd.foot_ne (fun W_ hk_ => Kd.C_of_reads (h1 := fun _ => rfl) (hA32 _ (Kd.reads_of_C (Kd.C_foot_ne (fun h => h) HRs32.out hfs32 W_ hk_)))) h_ (by decide)
           clear hi032 hsz32
           go_wp2
           go_ret
           exact ⟨_, by rfl, by exact Kd.R_mono (Kd.R_far (p := ⟨g, 0, none⟩) (IsS75.apart HI0.out HO_7.out (by decide)) (fun _ hk => hk.2) (_)) (fun _ hk => trivial), by repeat (exact IsS75.setw_0 (by exact HI0.out) (by simp) ⟨hC32, Kd.C_of_reads (h1 := fun _ => rfl) (hA32 _ (Kd.reads_of_C HSz31_0))⟩), by repeat ((with_reducible first | exact HB.out | refine below_set ?_ (IsS75.ge HI0.out))), by repeat ((with_reducible first | exact HK.out | apply KeepBut.set_ ))⟩
          ·rw [if_neg c30] at H
           exact absurd H (by simp)
         ·rw [if_neg c29] at H
          exact absurd H (by simp)
     ·rw [if_neg c10] at H
      exact absurd H (by simp)
    ·rw [if_neg c9] at H
     exact absurd H (by simp)
def q_reader_picked.l0 : Nat → List Int → List Int → List Int → Int → Int → List Int → Bool → Option (List Int × List Int × Bool)
 | 0, _, _, _, _, _, _, _ => none
 | k + 1, x2, x7, x13, x14, x15, x1000, x1001 => if x15 < x14 then (if 0 ≤ x15 then (if x15 < (x13.length : Int) then (if (rd x13 x15) ≥ (x2.length : Int) then (some (([] : List Int), x1000, true)) else (if 0 ≤ (rd x13 x15) then (if (rd x13 x15) < (x2.length : Int) then (if x15 < (x7.length : Int) then (q_reader_picked.l0 k x2 (x7.set (x15 : Int).toNat (rd x2 (rd x13 x15))) x13 x14 (wrap64 (x15 + 1)) x1000 x1001) else (none)) else (none)) else (none))) else (none)) else (none)) else (some (x7, x1000, x1001))
def q_reader_picked.f (k : Nat) (s0_0 : List Int) (s0_1 : Bool) (l1 : List Int) (l2 : List Int) : Option (List Int × List Int × Bool) := if 0 ≤ (l1.length : Int) then (if ((l1.length : Int) : Int).toNat ≤ 35184372088832 then (q_reader_picked.l0 k l2 (List.replicate ((l1.length : Int) : Int).toNat 0) l1 (l1.length : Int) 0 s0_0 s0_1) else (none)) else (none)
theorem q_reader_picked.mono_l : ∀ k, (∀ y0 y1 y2 y3 y4 y5 y6, LeO (q_reader_picked.l0 k y0 y1 y2 y3 y4 y5 y6) (q_reader_picked.l0 (k + 1) y0 y1 y2 y3 y4 y5 y6))
 | 0 => fun _ _ _ _ _ _ _ r h => by simp [q_reader_picked.l0] at h
 | k + 1 => by
  have ih0 := q_reader_picked.mono_l k
  ·intro y0 y1 y2 y3 y4 y5 y6
   unfold q_reader_picked.l0
   repeat' first
   | (with_reducible exact ih0 _ _ _ _ _ _ _)
   | (with_reducible exact LeO.refl _)
   | (with_reducible refine LeO.ite ?_ ?_)
theorem q_reader_picked.mono : ∀ a0 a1 a2 a3 k, LeO (q_reader_picked.f k a0 a1 a2 a3) (q_reader_picked.f (k + 1) a0 a1 a2 a3) := by
 intro a0 a1 a2 a3 k
 have ih0 := q_reader_picked.mono_l k
 unfold q_reader_picked.f
 repeat' first
  | (with_reducible exact ih0 _ _ _ _ _ _ _)
  | (with_reducible exact LeO.refl _)
  | (with_reducible refine LeO.ite ?_ ?_)
set_option maxHeartbeats 8000000 in
set_option maxRecDepth 100000 in
theorem q_reader_picked.calls (k : Nat) (g : Nat) (s0_0 : List Int) (s0_1 : Bool) (A1 : Option Addr) (c1 : Nat) (l1 : List Int) (A2 : Option Addr) (c2 : Nat) (l2 : List Int) (r1 : List Int) (r2 : List Int) (r3 : Bool) (w0 w : World) (hI : IsS75 w0 w g s0_0 s0_1) (hB : Below w0.heap.size w0 w) (hr1 : Kd.C (Kd.int .i64) w A1 l1.length l1) (hc1 : l1.length ≤ c1) (hf1 : ∀ ad, A1 = some ad → 0 < l1.length → ad.block ≠ g) (hr2 : Kd.C (Kd.int .i64) w A2 l2.length l2) (hc2 : l2.length ≤ c2) (hf2 : ∀ ad, A2 = some ad → 0 < l2.length → ad.block ≠ g) (h : q_reader_picked.f k s0_0 s0_1 l1 l2 = some (r1, r2, r3)) :
 Calls Try.prog 117 #[.pointer (some ⟨g, 0, none⟩), .slice A1 l1.length c1, .slice A2 l2.length c2] w fun e w' => ∃ v0_ : Value, e = .returned (v0_) ∧ Kd.R (Kd.int .i64) 3 w' w.heap.size (fun _ => True) v0_ r1 ∧ IsS75 w0 w' g r2 r3 ∧ Below w0.heap.size w0 w' ∧ KeepBut w w' g none := by
 have HR1 := Ak hr1
 have HC1 := Ak hc1
 clear hr1 hc1
 have HR2 := Ak hr2
 have HC2 := Ak hc2
 clear hr2 hc2
 have HI0 := Ak hI
 have HK := Ak (KeepBut.refl w g none)
 have HL := Ak hB.size
 clear hI
 have HW0 := Ak hB.size
 have HB := Ak hB
 have HBZ := Ak hB
 clear hB
 have H : (if 0 ≤ (l1.length : Int) then (if ((l1.length : Int) : Int).toNat ≤ 35184372088832 then (q_reader_picked.l0 k l2 (List.replicate ((l1.length : Int) : Int).toNat 0) l1 (l1.length : Int) 0 s0_0 s0_1) else (none)) else (none)) = some (r1, r2, r3) := h
 clear h
 by_cases c4 : 0 ≤ (l1.length : Int)
 ·rw [if_pos c4] at H
  have c4b0 := eq_true c4
  have c4b1 : decide (0 ≤ (l1.length : Int)) = true := decide_eq_true c4
  clear c4
  by_cases c5 : ((l1.length : Int) : Int).toNat ≤ 35184372088832
  ·rw [if_pos c5] at H
   have c5b0 := eq_true c5
   have c5b1 : decide (((l1.length : Int) : Int).toNat ≤ 35184372088832) = true := decide_eq_true c5
   clear c5
   obtain ⟨y587, hy587⟩ : ∃ y_ : List Int, y_ = (List.replicate ((l1.length : Int) : Int).toNat 0) := ⟨_, rfl⟩
   replace H : (q_reader_picked.l0 k l2 y587 l1 (l1.length : Int) 0 s0_0 s0_1) = some (r1, r2, r3) := by (rw [hy587]; with_reducible exact H)
   have Ny587 := Ak hy587
   clear hy587
   have H' := Ak H
   clear H
   go_enter Try.func117, Try.ntmps117
   go_wp2_with (first | ((with_reducible refine gate_dst (N := 12) rfl ?_); refine Kd.R_make (Kd.int .i64) _ 3 rfl (N := 12) rfl 22 _ _ rfl (l1.length : Int) rfl rfl Try.underlying22 (.int .i64 0) 8 info3 rfl (by decide) (by omega) 0 (ok := fun _ => True) (okp := fun _ => True) rfl (fun _ hk => hk) trivial (of_decide_eq_true (by (with_reducible assumption))) (Nat.le_trans (Nat.mul_le_mul_right _ (of_decide_eq_true (by (with_reducible assumption)) : (l1.length : Int).toNat ≤ 35184372088832)) (by omega)) (Below.refl _ _) (Nat.le_refl _) ?_; intro v588 w6 ho7 hb hg_ hnew_; clear hg_ hnew_; (rw [← Ny587.out] at ho7); have n0_ := Ak (Kd.R_lower ho7 (keep_size (w := w) (g := g) (row := none) (by exact HK.out))); have n1_ := Ak (IsS75.below (by exact HI0.out) hb); have n2_ := Ak (KeepBut.trans (by exact HK.out) (KeepBut.of_below hb g none) (.inl rfl)); have n3_ := Ak (below_step (by exact HB.out) hb); clear HI0 HK HB; have HO589 := n0_; have HI0 := n1_; have HK := n2_; have HB := n3_; clear n0_ n1_ n2_ n3_ hb ho7))
   go_loopg [15] k (fun kq v15 w' => ∃ (x7_1 : List Int) (x15_1 : Int) (x1001_1 : Bool), v15 = .int .i64 x15_1 ∧ Aside0 (q_reader_picked.l0 kq l2 x7_1 l1 (l1.length : Int) x15_1 s0_0 x1001_1 = some (r1, r2, r3)) ∧ Aside0 (kq ≤ k) ∧ Aside0 (Kd.R (Kd.int .i64) 3 w' w.heap.size (fun _ => True) v588 x7_1) ∧ Aside0 (IsS75 w0 w' g s0_0 x1001_1) ∧ Aside0 (KeepBut w w' g none) ∧ Aside0 (Below w0.heap.size w0 w'))
   case atStart => exact ⟨(y587), (0), (s0_1), (by rfl), H', ⟨Nat.le_refl _⟩, ⟨by exact HO589.out⟩, ⟨by exact HI0.out⟩, ⟨by exact HK.out⟩, ⟨by exact HB.out⟩⟩
   case round =>
    clear H'
    try clear c4b0
    try clear c4b1
    try clear c5b0
    try clear c5b1
    obtain ⟨x7_1, x15_1, x1001_1, rfl, HA, HK1, HO_7, HI0, HK, HB⟩ := hrel
    cases gk with
    | zero => exact absurd HA.out (by simp [q_reader_picked.l0])
    | succ k1 =>
     have H := HA.out
     clear HA
     simp only [q_reader_picked.l0] at H
     by_cases c8 : x15_1 < (l1.length : Int)
     ·rw [if_pos c8] at H
      have c8b0 : decide (x15_1 < (l1.length : Int)) = true := decide_eq_true c8
      clear c8
      by_cases c9 : 0 ≤ x15_1
      ·rw [if_pos c9] at H
       have c9b0 : decide (0 ≤ x15_1) = true := decide_eq_true c9
       clear c9
       by_cases c10 : x15_1 < (l1.length : Int)
       ·rw [if_pos c10] at H
        have c10b0 : decide (x15_1 < (l1.length : Int)) = true := decide_eq_true c10
        clear c10
        by_cases c11 : (rd l1 x15_1) ≥ (l2.length : Int)
        ·rw [if_pos c11] at H
         have c11b0 : decide ((l2.length : Int) ≤ (rd l1 x15_1)) = true := decide_eq_true c11
         clear c11
         simp only [Option.some.injEq, Prod.mk.injEq] at H
         obtain ⟨rfl, rfl, rfl⟩ := H
         have p590 : 0 ≤ (x15_1 : Int) := of_decide_eq_true (by (with_reducible assumption))
         have q590 : x15_1 < (l1.length : Int) := of_decide_eq_true (by (with_reducible assumption))
         obtain ⟨ad590, e590, hx590_0⟩ := Kd.at_int HR1.out x15_1 p590 q590
         cases e590
         replace hx590_0 := keep_cell HK.out hx590_0 (by (rw [add_block]; exact hf1 _ rfl (by omega)))
         replace p590 := eq_true p590
         replace q590 := eq_true q590
         obtain ⟨ASz12_0, cSz12_0, HGz12, hgz12, HSz12_0⟩ := HI0.out
         have hcz12_0 := cellS75_0 HGz12
         have hcz12_1 := cellS75_1 HGz12
         have hfz12_0 := blk_frozen HGz12 0
         have hfz12_1 := blk_frozen HGz12 1
         have HCSz12_0 := HSz12_0.1
         replace HSz12_0 := HSz12_0.2
         clear HGz12 hgz12
         go_wp2
         go_ret
         exact ⟨_, by rfl, by exact Kd.R_nil _ _ _ _ _, by repeat ((with_reducible first | exact HI0.out | apply IsS75.set_1)), by repeat ((with_reducible first | exact HB.out | refine below_set ?_ (IsS75.ge HI0.out))), by repeat ((with_reducible first | exact HK.out | apply KeepBut.set_ ))⟩
        ·rw [if_neg c11] at H
         have c11b0 : decide ((l2.length : Int) ≤ (rd l1 x15_1)) = false := decide_eq_false c11
         clear c11
         by_cases c13 : 0 ≤ (rd l1 x15_1)
         ·rw [if_pos c13] at H
          have c13b0 : decide (0 ≤ (rd l1 x15_1)) = true := decide_eq_true c13
          clear c13
          by_cases c14 : (rd l1 x15_1) < (l2.length : Int)
          ·rw [if_pos c14] at H
           have c14b0 : decide ((rd l1 x15_1) < (l2.length : Int)) = true := decide_eq_true c14
           clear c14
           by_cases c15 : x15_1 < (x7_1.length : Int)
           ·rw [if_pos c15] at H
            have c15b0 : decide (x15_1 < (x7_1.length : Int)) = true := decide_eq_true c15
            clear c15
            obtain ⟨y592, hy592⟩ : ∃ y_ : List Int, y_ = (x7_1.set (x15_1 : Int).toNat (rd l2 (rd l1 x15_1))) := ⟨_, rfl⟩
            replace H : (q_reader_picked.l0 k1 l2 y592 l1 (l1.length : Int) (wrap64 (x15_1 + 1)) s0_0 x1001_1) = some (r1, r2, r3) := by (rw [hy592]; with_reducible exact H)
            have Ny592 := Ak hy592
            clear hy592
            have H' := Ak H
            clear H
            have p590 : 0 ≤ (x15_1 : Int) := of_decide_eq_true (by (with_reducible assumption))
            have q590 : x15_1 < (l1.length : Int) := of_decide_eq_true (by (with_reducible assumption))
            obtain ⟨ad590, e590, hx590_0⟩ := Kd.at_int HR1.out x15_1 p590 q590
            cases e590
            replace hx590_0 := keep_cell HK.out hx590_0 (by (rw [add_block]; exact hf1 _ rfl (by omega)))
            replace p590 := eq_true p590
            replace q590 := eq_true q590
            have p591 : 0 ≤ ((rd l1 x15_1) : Int) := of_decide_eq_true (by (with_reducible assumption))
            have q591 : (rd l1 x15_1) < (l2.length : Int) := of_decide_eq_true (by (with_reducible assumption))
            obtain ⟨ad591, e591, hx591_0⟩ := Kd.at_int HR2.out (rd l1 x15_1) p591 q591
            cases e591
            replace hx591_0 := keep_cell HK.out hx591_0 (by (rw [add_block]; exact hf2 _ rfl (by omega)))
            replace p591 := eq_true p591
            replace q591 := eq_true q591
            have p16 : 0 ≤ (x15_1 : Int) := of_decide_eq_true (by (with_reducible assumption))
            have q16 : (x15_1 : Int) < ((x7_1.length : Int) : Int) := of_decide_eq_true (by (with_reducible assumption))
            obtain ⟨go16, co16, eo16, gb16, gl16, cl16, HG16⟩ := Kd.R_form HO_7.out (by omega)
            (cases eo16)
            have GB16 := Ak gb16
            have GG16 := Ak HG16
            clear gb16 gl16 HG16
            obtain ⟨hx16_0, hf16_0⟩ := Kd.R_celln 0 HO_7.out (x15_1 : Int) p16 q16
            replace p16 := eq_true p16
            replace q16 := eq_true q16
            have HP17 := Kd.R_putg HO_7.out (x15_1 : Int) (rd l2 (rd l1 x15_1))
            go_wp2_with (first | ((with_reducible refine gate_store (t := 3) (p := 33) rfl ?_); refine store_event (t := 3) (p := 33) (v := ?vo_w18) (w1 := (wr.setCell ⟨go16, (x15_1 : Int).toNat, none⟩ (.int .i64 (rd l2 (rd l1 x15_1))))) ?hg ?ho ?hn ?hr ?_; (case ho => rfl); (case hg => rfl); (case hn => rfl); (case hr => (go_simp; done)); intro w18 hw; have hg : wr.grownBy w18 (some go16) := (by rw [hw]; exact HP17.2); have hp_ : Kd.R (Kd.int .i64) 3 w18 w.heap.size (fun _ => True) (.slice (some ⟨go16, 0, none⟩) x7_1.length co16) y592 := (by rw [hw, Ny592.out]; exact HP17.1); clear HP17; have n0_ := Ak (hp_); have n1_ := Ak (IsS75.grown (by exact HI0.out) hg (IsS75.own_ne HI0.out HO_7.out (by decide))); have n2_ := Ak ((by rw [hw]; exact below_set (HB.out) (Nat.le_trans HL.out GB16.out) : Below w0.heap.size w0 w18)); have n3_ := Ak (KeepBut.trans (by exact HK.out) (KeepBut.of_grown hg g) (Kd.R_base2 HO_7.out)); clear HO_7 HI0 HB HK; have HO_7 := n0_; have HI0 := n1_; have HB := n2_; have HK := n3_; clear n0_ n1_ n2_ n3_ hg hw hp_))
            go_roundg k1
            case measure => have := HK1.out; omega
            case rel => exact ⟨(y592), (wrap64 (x15_1 + 1)), (x1001_1), (by rfl), H', ⟨by have := HK1.out; omega⟩, ⟨by exact HO_7.out⟩, ⟨by exact HI0.out⟩, ⟨by exact HK.out⟩, ⟨by exact HB.out⟩⟩
           ·rw [if_neg c15] at H
            exact absurd H (by simp)
          ·rw [if_neg c14] at H
           exact absurd H (by simp)
         ·rw [if_neg c13] at H
          exact absurd H (by simp)
       ·rw [if_neg c10] at H
        exact absurd H (by simp)
      ·rw [if_neg c9] at H
       exact absurd H (by simp)
     ·rw [if_neg c8] at H
      have c8b0 : decide (x15_1 < (l1.length : Int)) = false := decide_eq_false c8
      clear c8
      simp only [Option.some.injEq, Prod.mk.injEq] at H
      obtain ⟨rfl, rfl, rfl⟩ := H
      go_wp2
      go_ret
      exact ⟨_, by rfl, by exact HO_7.out, by exact HI0.out, by exact HB.out, by exact HK.out⟩
  ·rw [if_neg c5] at H
   exact absurd H (by simp)
 ·rw [if_neg c4] at H
  exact absurd H (by simp)
mutual
def q_reader_dict.j0 : Nat → Int → Int → Bool → List Int → Bool → Option (List Int × List Int × Bool)
 | 0, _, _, _, _, _ => none
 | k + 1, x1, x5, x21, x1000, x1001 => if x21 = true then (some (([] : List Int), x1000, true)) else ((q_reader_number.f k x1000 x1001).bind fun bt596 => (q_reader_dict.l0 k x1 x5 (([bt596.1] : List Int)) bt596.2.1 bt596.2.2))
def q_reader_dict.j2 : Nat → Int → Int → List Int → List Int → Bool → Option (List Int × List Int × Bool)
 | 0, _, _, _, _, _ => none
 | k + 1, x1, x5, x6, x1000, x1001 => if x1001 = true then (some (([] : List Int), x1000, x1001)) else ((q_width.f (wrap64 (x5 - 1))).bind fun t609 => ((q_reader_unpacked.f k x1000 x1001 x1 t609).bind fun bt610 => ((q_reader_picked.f k bt610.2.1 bt610.2.2 bt610.1 x6).bind fun bt615 => (some (bt615.1, bt615.2.1, bt615.2.2)))))
def q_reader_dict.l0 : Nat → Int → Int → List Int → List Int → Bool → Option (List Int × List Int × Bool)
 | 0, _, _, _, _, _ => none
 | k + 1, x1, x5, x6, x1000, x1001 => if (x6.length : Int) < x5 then (if x1001 = true then (q_reader_dict.j2 k x1 x5 x6 x1000 x1001) else (if 0 ≤ (wrap64 ((x6.length : Int) - 1)) then (if (wrap64 ((x6.length : Int) - 1)) < (x6.length : Int) then ((q_reader_count.f k x1000 x1001).bind fun bt603 => (if x6.length < 17592186044416 then (q_reader_dict.l0 k x1 x5 (x6 ++ [wrap64 ((rd x6 (wrap64 ((x6.length : Int) - 1))) + bt603.1)]) bt603.2.1 bt603.2.2) else (none))) else (none)) else (none))) else (q_reader_dict.j2 k x1 x5 x6 x1000 x1001)
end
def q_reader_dict.f (k : Nat) (s0_0 : List Int) (s0_1 : Bool) (a1 : Int) : Option (List Int × List Int × Bool) := (q_reader_count.f k s0_0 s0_1).bind fun bt593 => (if bt593.2.2 = true then (q_reader_dict.j0 k a1 bt593.1 true bt593.2.1 bt593.2.2) else (if bt593.1 < 1 then (q_reader_dict.j0 k a1 bt593.1 true bt593.2.1 bt593.2.2) else (q_reader_dict.j0 k a1 bt593.1 (decide (bt593.1 > a1)) bt593.2.1 bt593.2.2)))
theorem q_reader_dict.mono_l : ∀ k, (∀ y0 y1 y2 y3 y4, LeO (q_reader_dict.j0 k y0 y1 y2 y3 y4) (q_reader_dict.j0 (k + 1) y0 y1 y2 y3 y4)) ∧ (∀ y0 y1 y2 y3 y4, LeO (q_reader_dict.j2 k y0 y1 y2 y3 y4) (q_reader_dict.j2 (k + 1) y0 y1 y2 y3 y4)) ∧ (∀ y0 y1 y2 y3 y4, LeO (q_reader_dict.l0 k y0 y1 y2 y3 y4) (q_reader_dict.l0 (k + 1) y0 y1 y2 y3 y4))
 | 0 => ⟨fun _ _ _ _ _ r h => by simp [q_reader_dict.j0] at h, fun _ _ _ _ _ r h => by simp [q_reader_dict.j2] at h, fun _ _ _ _ _ r h => by simp [q_reader_dict.l0] at h⟩
 | k + 1 => by
  obtain ⟨ih0, ih1, ih2⟩ := q_reader_dict.mono_l k
  refine ⟨?_, ?_, ?_⟩ <;> intros
  all_goals (first | unfold q_reader_dict.j0 | unfold q_reader_dict.j2 | unfold q_reader_dict.l0)
  all_goals
   repeat' first
   | (with_reducible exact ih1 _ _ _ _ _)
   | (with_reducible exact ih2 _ _ _ _ _)
   | (with_reducible exact q_reader_count.mono _ _ _)
   | (with_reducible exact q_reader_number.mono _ _ _)
   | (with_reducible exact q_reader_picked.mono _ _ _ _ _)
   | (with_reducible exact q_reader_unpacked.mono _ _ _ _ _)
   | (with_reducible exact LeO.refl _)
   | (with_reducible refine LeO.ite ?_ ?_)
   | (with_reducible refine LeO.bind ?_ (fun _ => ?_))
theorem q_reader_dict.mono : ∀ a0 a1 a2 k, LeO (q_reader_dict.f k a0 a1 a2) (q_reader_dict.f (k + 1) a0 a1 a2) := by
 intro a0 a1 a2 k
 obtain ⟨ih0, ih1, ih2⟩ := q_reader_dict.mono_l k
 unfold q_reader_dict.f
 repeat' first
  | (with_reducible exact ih0 _ _ _ _ _)
  | (with_reducible exact q_reader_count.mono _ _ _)
  | (with_reducible refine LeO.ite ?_ ?_)
  | (with_reducible refine LeO.bind ?_ (fun _ => ?_))
def q_reader_dict.T7 : Bool × List (List Nat × List Nat) := (true, [([], []), ([], []), ([], []), ([2], [2]), ([3], [3]), ([1, 4], [1, 4]), ([5], [5]), ([], []), ([7], [7]), ([6, 8], [6, 8]), ([9], [9]), ([0, 10, 8], [0, 10]), ([11, 11, 0, 1, 2, 3, 4, 5, 6, 7, 8, 9, 10, 11], [0, 1, 2, 11])])
def q_reader_dict.B7 : List Nat := [0, 0, 0, 4, 12, 30, 62, 0, 128, 510, 1022, 2047, 4095]
theorem q_reader_dict.tab7 : rtab .any (opsOf Try.f88 7) = q_reader_dict.T7 := by kernel_rfl
theorem q_reader_dict.bits7 : waitsOk q_reader_dict.T7.2 q_reader_dict.B7 = true := by kernel_rfl
set_option maxHeartbeats 8000000 in
set_option maxRecDepth 100000 in
theorem q_reader_dict.calls (k : Nat) (g : Nat) (s0_0 : List Int) (s0_1 : Bool) (a1 : Int) (r1 : List Int) (r2 : List Int) (r3 : Bool) (w0 w : World) (hI : IsS75 w0 w g s0_0 s0_1) (hB : Below w0.heap.size w0 w) (h : q_reader_dict.f k s0_0 s0_1 a1 = some (r1, r2, r3)) :
 Calls Try.prog 88 #[.pointer (some ⟨g, 0, none⟩), .int .i64 a1] w fun e w' => ∃ v0_ : Value, e = .returned (v0_) ∧ Kd.R (Kd.int .i64) 3 w' w.heap.size (fun _ => True) v0_ r1 ∧ IsS75 w0 w' g r2 r3 ∧ Below w0.heap.size w0 w' ∧ KeepBut w w' g none := by
 have HI0 := Ak hI
 have HK := Ak (KeepBut.refl w g none)
 have HL := Ak hB.size
 clear hI
 have HW0 := Ak hB.size
 have HB := Ak hB
 have HBZ := Ak hB
 clear hB
 have H : ((q_reader_count.f k s0_0 s0_1).bind fun bt593 => (if bt593.2.2 = true then (q_reader_dict.j0 k a1 bt593.1 true bt593.2.1 bt593.2.2) else (if bt593.1 < 1 then (q_reader_dict.j0 k a1 bt593.1 true bt593.2.1 bt593.2.2) else (q_reader_dict.j0 k a1 bt593.1 (decide (bt593.1 > a1)) bt593.2.1 bt593.2.2)))) = some (r1, r2, r3) := h
 clear h
 replace H := Option.bind_eq_some_iff.mp H
 obtain ⟨⟨t593, t594, t595⟩, A30, H⟩ := H
 replace H : (if t595 = true then (q_reader_dict.j0 k a1 t593 true t594 t595) else (if t593 < 1 then (q_reader_dict.j0 k a1 t593 true t594 t595) else (q_reader_dict.j0 k a1 t593 (decide (t593 > a1)) t594 t595))) = some (r1, r2, r3) := H
 have A3 := Ak A30
 clear A30
 have HC4 := Ak H
 clear H
 go_enter Try.func88, Try.ntmps88
 go_upto_region 2 with (first | ((with_reducible refine gate_callee (f := 60) rfl ?_); refine goesL_ (some 8) rfl rfl Try.func60 (by kernel_rfl) rfl #[.pointer (some ⟨g, 0, none⟩)] rfl (by (try simp only [lm]); rfl) ?_; (with_reducible refine (q_reader_count.calls k g s0_0 s0_1 t593 t594 t595 w0 _ ?side1 ?side2 A3.out).mono ?_); (case side1 => exact HI0.out); (case side2 => exact HB.out); rintro e w5 ⟨rfl, hi, hb, hk⟩; refine ⟨_, rfl, ?_⟩; have n0_ := Ak (KeepBut.trans (by exact HK.out) hk (.inl rfl)); have n1_ := Ak (hb); have n2_ := Ak (hi); clear HK HB HI0; have HK := n0_; have HB := n1_; have HI0 := n2_; clear n0_ n1_ n2_; (try clear hb); (try clear hk); (try clear hi)))
 (try simp only [Act.put, List.setIfInBounds_toArray, List.set_cons_zero, List.set_cons_succ])
 go_cut [21] (fun v21 wc => ∃ (kq : Nat) (x21_3 : Bool), v21 = .bool x21_3 ∧ Aside0 (q_reader_dict.j0 kq a1 t593 x21_3 t594 t595 = some (r1, r2, r3)) ∧ Aside0 (kq ≤ k) ∧ Aside0 (IsS75 w0 wc g t594 t595) ∧ Aside0 (KeepBut w wc g none) ∧ Aside0 (Below w0.heap.size w0 wc))
 case first =>
  have H := HC4.out
  clear HC4
  by_cases c6 : t595 = true
  ·subst c6
   replace H : (q_reader_dict.j0 k a1 t593 true t594 true) = some (r1, r2, r3) := by rw [if_pos rfl] at H; exact H
   have H' := Ak H
   clear H
   obtain ⟨ASz7_0, cSz7_0, HGz7, hgz7, HSz7_0⟩ := HI0.out
   have hcz7_0 := cellS75_0 HGz7
   have hcz7_1 := cellS75_1 HGz7
   have hfz7_0 := blk_frozen HGz7 0
   have hfz7_1 := blk_frozen HGz7 1
   have HCSz7_0 := HSz7_0.1
   replace HSz7_0 := HSz7_0.2
   clear HGz7 hgz7
   go_wp2
   go_meet
   case rel => exact ⟨_, (true), (by rfl), H', ⟨by omega⟩, ⟨by exact HI0.out⟩, ⟨by exact HK.out⟩, ⟨by exact HB.out⟩⟩
  ·replace c6 := Bool.eq_false_iff.mpr c6
   subst c6
   replace H : (if t593 < 1 then (q_reader_dict.j0 k a1 t593 true t594 false) else (q_reader_dict.j0 k a1 t593 (decide (t593 > a1)) t594 false)) = some (r1, r2, r3) := by rw [if_neg (show ¬ (false = true) by decide)] at H; exact H
   by_cases c8 : t593 < 1
   ·rw [if_pos c8] at H
    have c8b0 : decide (t593 < 1) = true := decide_eq_true c8
    clear c8
    (skip)
    (try rw [c8b1])
    have H' := Ak H
    clear H
    obtain ⟨ASz9_0, cSz9_0, HGz9, hgz9, HSz9_0⟩ := HI0.out
    have hcz9_0 := cellS75_0 HGz9
    have hcz9_1 := cellS75_1 HGz9
    have hfz9_0 := blk_frozen HGz9 0
    have hfz9_1 := blk_frozen HGz9 1
    have HCSz9_0 := HSz9_0.1
    replace HSz9_0 := HSz9_0.2
    clear HGz9 hgz9
    go_wp2
    go_meet
    case rel => exact ⟨_, (true), (by rfl), H', ⟨by omega⟩, ⟨by exact HI0.out⟩, ⟨by exact HK.out⟩, ⟨by exact HB.out⟩⟩
   ·rw [if_neg c8] at H
    have c8b0 : decide (t593 < 1) = false := decide_eq_false c8
    clear c8
    (skip)
    (try rw [c8b1])
    have H' := Ak H
    clear H
    obtain ⟨ASz10_0, cSz10_0, HGz10, hgz10, HSz10_0⟩ := HI0.out
    have hcz10_0 := cellS75_0 HGz10
    have hcz10_1 := cellS75_1 HGz10
    have hfz10_0 := blk_frozen HGz10 0
    have hfz10_1 := blk_frozen HGz10 1
    have HCSz10_0 := HSz10_0.1
    replace HSz10_0 := HSz10_0.2
    clear HGz10 hgz10
    go_wp2
    go_meet
    case rel => exact ⟨_, (decide (t593 > a1)), (by rfl), H', ⟨by omega⟩, ⟨by exact HI0.out⟩, ⟨by exact HK.out⟩, ⟨by exact HB.out⟩⟩
 case rest =>
  clear HC4
  obtain ⟨kq, x21_3, rfl, HA, HJ3, HI0, HK, HB⟩ := hcut
  cases kq with
  | zero => exact absurd HA.out (by simp [q_reader_dict.j0])
  | succ kj3 =>
   have H := HA.out
   clear HA
   simp only [q_reader_dict.j0] at H
   by_cases c11 : x21_3 = true
   ·subst c11
    replace H : (some (([] : List Int), t594, true)) = some (r1, r2, r3) := by rw [if_pos rfl] at H; exact H
    simp only [Option.some.injEq, Prod.mk.injEq] at H
    obtain ⟨rfl, rfl, rfl⟩ := H
    obtain ⟨ASz12_0, cSz12_0, HGz12, hgz12, HSz12_0⟩ := HI0.out
    have hcz12_0 := cellS75_0 HGz12
    have hcz12_1 := cellS75_1 HGz12
    have hfz12_0 := blk_frozen HGz12 0
    have hfz12_1 := blk_frozen HGz12 1
    have HCSz12_0 := HSz12_0.1
    replace HSz12_0 := HSz12_0.2
    clear HGz12 hgz12
    go_wp2
    go_ret
    exact ⟨_, by rfl, by exact Kd.R_nil _ _ _ _ _, by repeat ((with_reducible first | exact HI0.out | apply IsS75.set_1)), by repeat ((with_reducible first | exact HB.out | refine below_set ?_ (IsS75.ge HI0.out))), by repeat ((with_reducible first | exact HK.out | apply KeepBut.set_ ))⟩
   ·replace c11 := Bool.eq_false_iff.mpr c11
    subst c11
    replace H : ((q_reader_number.f kj3 t594 t595).bind fun bt596 => (q_reader_dict.l0 kj3 a1 t593 (([bt596.1] : List Int)) bt596.2.1 bt596.2.2)) = some (r1, r2, r3) := by rw [if_neg (show ¬ (false = true) by decide)] at H; exact H
    replace H := Option.bind_eq_some_iff.mp H
    obtain ⟨⟨t596, t597, t598⟩, A130, H⟩ := H
    replace H : (q_reader_dict.l0 kj3 a1 t593 (([t596] : List Int)) t597 t598) = some (r1, r2, r3) := H
    have A13 := Ak A130
    clear A130
    obtain ⟨y599, hy599⟩ : ∃ y_ : List Int, y_ = (([t596] : List Int)) := ⟨_, rfl⟩
    replace H : (q_reader_dict.l0 kj3 a1 t593 y599 t597 t598) = some (r1, r2, r3) := by (rw [hy599]; with_reducible exact H)
    have Ny599 := Ak hy599
    clear hy599
    have HC14 := Ak H
    clear H
    go_upto_block 0 with (first | ((with_reducible refine gate_callee (f := 86) rfl ?_); refine goesL_ (some 26) rfl rfl Try.func86 (by kernel_rfl) rfl #[.pointer (some ⟨g, 0, none⟩)] rfl (by (try simp only [lm]); rfl) ?_; (with_reducible refine (q_reader_number.calls kj3 g t594 t595 t596 t597 t598 w0 _ ?side1 ?side2 A13.out).mono ?_); (case side1 => exact HI0.out); (case side2 => exact HB.out); rintro e w15 ⟨rfl, hi, hb, hk⟩; refine ⟨_, rfl, ?_⟩; have n0_ := Ak (KeepBut.trans (by exact HK.out) hk (.inl rfl)); have n1_ := Ak (hb); have n2_ := Ak (hi); clear HK HB HI0; have HK := n0_; have HB := n1_; have HI0 := n2_; clear n0_ n1_ n2_; (try clear hb); (try clear hk); (try clear hi)) | ((with_reducible refine gate_dst (N := 27) rfl ?_); refine Kd.R_lit (Kd.int .i64) _ 3 ?hg (N := 27) ?hd (xs := ([t596] : List Int)) (inner := [.int .i64 t596]) (ok := fun _ => True) (okp := fun _ => True) ?hr ?hp (fun _ hk => hk) trivial (Below.refl _ _) (Nat.le_refl _) (by simp) ?_; (case hd => rfl); (case hg => rfl); (case hr => (go_simp; done)); (case hp => exact (Reps.one (show Kd.M (Kd.int .i64) _ _ _ t596 [.int .i64 t596] from rfl) (Reps.none _ _))); intro v600 w16 ho17 hb hg_ hnew_; clear hg_ hnew_; (rw [← Ny599.out] at ho17); have n0_ := Ak (Kd.R_lower ho17 (keep_size (w := w) (g := g) (row := none) (by exact HK.out))); have n1_ := Ak (IsS75.below (by exact HI0.out) hb); have n2_ := Ak (KeepBut.trans (by exact HK.out) (KeepBut.of_below hb g none) (.inl rfl)); have n3_ := Ak (below_step (by exact HB.out) hb); clear HI0 HK HB; have HO601 := n0_; have HI0 := n1_; have HK := n2_; have HB := n3_; clear n0_ n1_ n2_ n3_ hb ho17))
    (try simp only [Act.put, List.setIfInBounds_toArray, List.set_cons_zero, List.set_cons_succ])
    go_cut [6] (fun v6 wc => ∃ (kq : Nat) (x6_13 : List Int) (x1000_13 : List Int) (x1001_13 : Bool), Aside0 (q_reader_dict.j2 kq a1 t593 x6_13 x1000_13 x1001_13 = some (r1, r2, r3)) ∧ Aside0 (kq ≤ kj3) ∧ Aside0 (Kd.R (Kd.int .i64) 3 wc w.heap.size (fun _ => True) v6 x6_13) ∧ Aside0 (IsS75 w0 wc g x1000_13 x1001_13) ∧ Aside0 (KeepBut w wc g none) ∧ Aside0 (Below w0.heap.size w0 wc))
    case first =>
     have H := HC14.out
     clear HC14
     have H' := Ak H
     clear H
     go_wp2
     go_loopg [6] kj3 (fun kq v6 w' => ∃ (x6_2 : List Int) (x1000_2 : List Int) (x1001_2 : Bool), Aside0 (q_reader_dict.l0 kq a1 t593 x6_2 x1000_2 x1001_2 = some (r1, r2, r3)) ∧ Aside0 (kq ≤ kj3) ∧ Aside0 (Kd.R (Kd.int .i64) 3 w' w.heap.size (fun _ => True) v6 x6_2) ∧ Aside0 (IsS75 w0 w' g x1000_2 x1001_2) ∧ Aside0 (KeepBut w w' g none) ∧ Aside0 (Below w0.heap.size w0 w'))
     case atStart => exact ⟨(y599), (t597), (t598), H', ⟨Nat.le_refl _⟩, ⟨by exact HO601.out⟩, ⟨by exact HI0.out⟩, ⟨by exact HK.out⟩, ⟨by exact HB.out⟩⟩
     case round =>
      clear H'
      obtain ⟨x6_2, x1000_2, x1001_2, HA, HK2, HO_6, HI0, HK, HB⟩ := hrel
      cases gk with
      | zero => exact absurd HA.out (by simp [q_reader_dict.l0])
      | succ k2 =>
       have H := HA.out
       clear HA
       simp only [q_reader_dict.l0] at H
       by_cases c18 : (x6_2.length : Int) < t593
       ·rw [if_pos c18] at H
        have c18b0 : decide ((x6_2.length : Int) < t593) = true := decide_eq_true c18
        clear c18
        (skip)
        (try rw [c18b1])
        by_cases c19 : x1001_2 = true
        ·subst c19
         replace H : (q_reader_dict.j2 k2 a1 t593 x6_2 x1000_2 true) = some (r1, r2, r3) := by rw [if_pos rfl] at H; exact H
         have H' := Ak H
         clear H
         obtain ⟨Ao20, co20, eo20⟩ := Kd.R_slice HO_6.out
         subst eo20
         obtain ⟨ASz21_0, cSz21_0, HGz21, hgz21, HSz21_0⟩ := HI0.out
         have hcz21_0 := cellS75_0 HGz21
         have hcz21_1 := cellS75_1 HGz21
         have hfz21_0 := blk_frozen HGz21 0
         have hfz21_1 := blk_frozen HGz21 1
         have HCSz21_0 := HSz21_0.1
         replace HSz21_0 := HSz21_0.2
         clear HGz21 hgz21
         go_wp2
         go_meet
         case rel => exact ⟨_, (x6_2), (x1000_2), (true), H', ⟨by have := HJ3.out; have := HK2.out; omega⟩, ⟨by exact HO_6.out⟩, ⟨by exact HI0.out⟩, ⟨by exact HK.out⟩, ⟨by exact HB.out⟩⟩
        ·replace c19 := Bool.eq_false_iff.mpr c19
         subst c19
         replace H : (if 0 ≤ (wrap64 ((x6_2.length : Int) - 1)) then (if (wrap64 ((x6_2.length : Int) - 1)) < (x6_2.length : Int) then ((q_reader_count.f k2 x1000_2 false).bind fun bt603 => (if x6_2.length < 17592186044416 then (q_reader_dict.l0 k2 a1 t593 (x6_2 ++ [wrap64 ((rd x6_2 (wrap64 ((x6_2.length : Int) - 1))) + bt603.1)]) bt603.2.1 bt603.2.2) else (none))) else (none)) else (none)) = some (r1, r2, r3) := by rw [if_neg (show ¬ (false = true) by decide)] at H; exact H
         obtain ⟨ji22, hji22⟩ : ∃ j_ : Int, (wrap64 ((x6_2.length : Int) - 1)) = j_ := ⟨_, rfl⟩
         replace H : (if 0 ≤ (ji22) then (if (ji22) < (x6_2.length : Int) then ((q_reader_count.f k2 x1000_2 false).bind fun bt603 => (if x6_2.length < 17592186044416 then (q_reader_dict.l0 k2 a1 t593 (x6_2 ++ [wrap64 ((rd x6_2 (ji22)) + bt603.1)]) bt603.2.1 bt603.2.2) else (none))) else (none)) else (none)) = some (r1, r2, r3) := by (rw [hji22] at H; exact H)
         have hji22w : (IntKind.i64.wrap ((x6_2.length : Int) - 1)) = ji22 := (i64_w _).trans hji22
         by_cases c23 : 0 ≤ (ji22)
         ·rw [if_pos c23] at H
          have c23b0 : decide (0 ≤ (ji22)) = true := decide_eq_true c23
          clear c23
          by_cases c24 : (ji22) < (x6_2.length : Int)
          ·rw [if_pos c24] at H
           have c24b0 : decide ((ji22) < (x6_2.length : Int)) = true := decide_eq_true c24
           clear c24
           replace H := Option.bind_eq_some_iff.mp H
           obtain ⟨⟨t603, t604, t605⟩, A250, H⟩ := H
           replace H : (if x6_2.length < 17592186044416 then (q_reader_dict.l0 k2 a1 t593 (x6_2 ++ [wrap64 ((rd x6_2 (ji22)) + t603)]) t604 t605) else (none)) = some (r1, r2, r3) := H
           have A25 := Ak A250
           clear A250
           by_cases c26 : x6_2.length < 17592186044416
           ·rw [if_pos c26] at H
            have LMc26 := Ak c26
            clear c26
            obtain ⟨y606, hy606⟩ : ∃ y_ : List Int, y_ = (x6_2 ++ [wrap64 ((rd x6_2 (ji22)) + t603)]) := ⟨_, rfl⟩
            replace H : (q_reader_dict.l0 k2 a1 t593 y606 t604 t605) = some (r1, r2, r3) := by (rw [hy606]; with_reducible exact H)
            have Ny606 := Ak hy606
            clear hy606
            have H' := Ak H
            clear H
            obtain ⟨Ao27, co27, eo27⟩ := Kd.R_slice HO_6.out
            subst eo27
            obtain ⟨ASz28_0, cSz28_0, HGz28, hgz28, HSz28_0⟩ := HI0.out
            have hcz28_0 := cellS75_0 HGz28
            have hcz28_1 := cellS75_1 HGz28
            have hfz28_0 := blk_frozen HGz28 0
            have hfz28_1 := blk_frozen HGz28 1
            have HCSz28_0 := HSz28_0.1
            replace HSz28_0 := HSz28_0.2
            clear HGz28 hgz28
            try go_wp2
            have n0_ := Ak (Kd.R_drew HO_6.out)
            have n1_ := Ak (IsS75.drew HI0.out)
            have n2_ := Ak (keep_drew HK.out)
            have n3_ := Ak (below_drew1 HB.out)
            clear HO_6 HI0 HK HB
            have HO_6 := n0_
            have HI0 := n1_
            have HK := n2_
            have HB := n3_
            clear n0_ n1_ n2_ n3_
            have p602 : 0 ≤ ((ji22) : Int) := of_decide_eq_true (by (with_reducible assumption))
            have q602 : (ji22) < (x6_2.length : Int) := of_decide_eq_true (by (with_reducible assumption))
            obtain ⟨ad602, e602, hx602_0⟩ := Kd.at_int (Kd.R_reads' HO_6.out).2.2 (ji22) p602 q602
            cases e602
            replace p602 := eq_true p602
            replace q602 := eq_true q602
            refine start_ (n := 13) (S := fun w' => w'.cell? (ad602.add ((ji22)).toNat) = some (.int .i64 (rd x6_2 (ji22)))) (ds := [10, 11]) #[false, false, false, false, false, false, false, false, false, false, false, false, false] (by kernel_rfl) rfl rfl (hx602_0) (fun hHeld => ?_); refine with_tabW q_reader_dict.tab7 q_reader_dict.bits7 (fun HT_ HW_ => ?_)
            generalize wr.drew = w29 at HO_6 HI0 HK HB hx602_0 hHeld ⊢
            refine pure_ (i := 0) (N := some 39) (v := ?_) (a' := ?_) #[true, false, false, false, false, false, false, false, false, false, false, false, false] rfl rfl (any_of HT_.out (by kernel_rfl)) (fun _ _ _ h => h) (Or.inl ⟨by rfl, ?_⟩) ?_ ?_
            rotate_left
            ·intro w'
             go_simp
             with_reducible rfl
            rotate_left
            ·simp only [Act.put, List.setIfInBounds_toArray, List.set_cons_zero, List.set_cons_succ, i64_w, i32_w]
             rfl
            refine pure_ (i := 1) (N := some 40) (v := ?_) (a' := ?_) #[true, true, false, false, false, false, false, false, false, false, false, false, false] rfl rfl (any_of HT_.out (by kernel_rfl)) (fun _ _ _ h => h) (Or.inl ⟨by rfl, ?_⟩) ?_ ?_
            rotate_left
            ·intro w'
             go_simp
             with_reducible rfl
            rotate_left
            ·simp only [Act.put, List.setIfInBounds_toArray, List.set_cons_zero, List.set_cons_succ, i64_w, i32_w]
             rfl
            refine pure_ (i := 2) (N := some 41) (v := ?_) (a' := ?_) #[true, true, true, false, false, false, false, false, false, false, false, false, false] rfl rfl (any_of HT_.out (by kernel_rfl)) (fun _ _ _ h => h) (Or.inl ⟨by rfl, ?_⟩) ?_ ?_
            rotate_left
            ·intro w'
             go_simp
             with_reducible rfl
            rotate_left
            ·simp only [Act.put, List.setIfInBounds_toArray, List.set_cons_zero, List.set_cons_succ, i64_w, i32_w]
             rfl
            refine pure_ (i := 3) (N := some 42) (v := ?_) (a' := ?_) #[true, true, true, true, false, false, false, false, false, false, false, false, false] rfl rfl (any_of HT_.out (by kernel_rfl)) (fun _ _ _ h => h) (Or.inl ⟨by rfl, ?_⟩) ?_ ?_
            rotate_left
            ·intro w'
             go_simp
             with_reducible rfl
            rotate_left
            ·simp only [Act.put, List.setIfInBounds_toArray, List.set_cons_zero, List.set_cons_succ, i64_w, i32_w]
             rfl
            refine pure_ (i := 4) (N := some 43) (v := ?_) (a' := ?_) #[true, true, true, true, true, false, false, false, false, false, false, false, false] rfl rfl (any_of HT_.out (by kernel_rfl)) (fun _ _ _ h => h) (Or.inl ⟨by rfl, ?_⟩) ?_ ?_
            rotate_left
            ·intro w'
             go_simp
             with_reducible rfl
            rotate_left
            ·simp only [Act.put, List.setIfInBounds_toArray, List.set_cons_zero, List.set_cons_succ, i64_w, i32_w]
             rfl
            refine pure_ (i := 5) (N := some 44) (v := ?_) (a' := ?_) #[true, true, true, true, true, true, false, false, false, false, false, false, false] rfl rfl (any_of HT_.out (by kernel_rfl)) (fun _ _ _ h => h) (Or.inl ⟨by rfl, ?_⟩) ?_ ?_
            rotate_left
            ·intro w'
             go_simp
             with_reducible rfl
            rotate_left
            ·simp only [Act.put, List.setIfInBounds_toArray, List.set_cons_zero, List.set_cons_succ, i64_w, i32_w]
             rfl
            refine pure_ (i := 7) (N := some 46) (v := ?_) (a' := ?_) #[true, true, true, true, true, true, false, true, false, false, false, false, false] rfl rfl (any_of HT_.out (by kernel_rfl)) (fun _ _ _ h => h) (Or.inl ⟨by rfl, ?_⟩) ?_ ?_
            rotate_left
            ·intro w'
             go_simp
             with_reducible rfl
            rotate_left
            ·simp only [Act.put, List.setIfInBounds_toArray, List.set_cons_zero, List.set_cons_succ, i64_w, i32_w]
             rfl
            refine take_ (i := 6) (N := some 45) (v := ?_) (a' := ?_) #[true, true, true, true, true, true, true, true, false, false, false, false, false] rfl rfl (take_ofW HT_.out HW_.out (by kernel_rfl)) (fun _ _ _ h => h) (Or.inl ⟨by rfl, ?_⟩) hHeld ?_ ?_
            rotate_left
            ·intro w' s0
             go_simp
             with_reducible rfl
            rotate_left
            ·simp only [Act.put, List.setIfInBounds_toArray, List.set_cons_zero, List.set_cons_succ, i64_w, i32_w]
             rfl
            refine one_ (i := 8) (N := some 47) #[true, true, true, true, true, true, true, true, true, false, false, false, false] rfl rfl (one_of HT_.out (by kernel_rfl)) (by decide) (fun K hK => ?_)
            refine goes_ Try.func60 (by kernel_rfl) rfl #[.pointer (some ⟨g, 0, none⟩)] (by rfl) rfl rfl (by (try simp only [lm]); rfl) ?_
            with_reducible refine (q_reader_count.calls k2 g x1000_2 false t603 t604 t605 w0 _ ?side1 ?side2 A25.out).mono ?_
            (case side1 => exact HI0.out)
            (case side2 => exact HB.out)
            rintro e w30 ⟨rfl, hi, hb, hk⟩
            have HS0_ := keep_cell hk (hHeld) (by (rw [add_block]; exact Kd.own_blk (IsS75.own_ne HI0.out HO_6.out (by decide))))
            refine ⟨_, rfl, ?_⟩
            have n0_ := Ak (Kd.R_mono (Kd.R_keep (IsS75.apart (show IsS75 w0 _ g x1000_2 false from by exact HI0.out) (by exact HO_6.out) (by decide)) hk (fun _ h => h.2)) (fun _ h => h.1))
            have n1_ := Ak (KeepBut.trans (by exact HK.out) hk (.inl rfl))
            have n2_ := Ak (hb)
            have n3_ := Ak (hi)
            clear HO_6 HK HB HI0
            have HO_6 := n0_
            have HK := n1_
            have HB := n2_
            have HI0 := n3_
            clear n0_ n1_ n2_ n3_
            (try clear hb)
            (try clear hb2)
            (try clear hk)
            (try clear hi)
            refine hK.out _ _ (HS0_) (fun hHeld => ?_)
            clear hK K
            refine norm_ (a' := ?_) ?_ ?_
            rotate_left
            ·show Act.put _ (some 47) _ = _
             simp only [Act.put, List.setIfInBounds_toArray, List.set_cons_zero, List.set_cons_succ, i64_w, i32_w]
             rfl
            refine pure_ (i := 9) (N := some 48) (v := ?_) (a' := ?_) #[true, true, true, true, true, true, true, true, true, true, false, false, false] rfl rfl (any_of HT_.out (by kernel_rfl)) (fun _ _ _ h => h) (Or.inl ⟨by rfl, ?_⟩) ?_ ?_
            rotate_left
            ·intro w'
             go_simp
             with_reducible rfl
            rotate_left
            ·simp only [Act.put, List.setIfInBounds_toArray, List.set_cons_zero, List.set_cons_succ, i64_w, i32_w]
             rfl
            refine last_ (i := 10) (N := some 49) #[true, true, true, true, true, true, true, true, true, true, true, false, false] rfl rfl (one_of HT_.out (by kernel_rfl)) (by decide) (fun K hK => ?_)
            refine value_ (w1 := ?_) (v := ?_) (by rfl) rfl ?_ ?_
            rotate_left 2
            ·go_simp
             constructor
             ·rfl
             ·rfl
            refine hK.out _ _ ?_
            clear hK K
            refine norm_ (a' := ?_) ?_ ?_
            rotate_left
            ·show Act.put _ (some 49) _ = _
             simp only [Act.put, List.setIfInBounds_toArray, List.set_cons_zero, List.set_cons_succ, i64_w, i32_w]
             rfl
            refine last_ (i := 11) (N := some 50) #[true, true, true, true, true, true, true, true, true, true, true, true, false] rfl rfl (one_of HT_.out (by kernel_rfl)) (by decide) (fun K hK => ?_)
            refine Kd.R_append_step (Kd.int .i64) w.heap.size (by rfl) (.tmp 39) (.tmp 49) 22 3 (.int .i64 0) 8 rfl Try.underlying22 info3 rfl (by decide) (by omega) (.slice (some ad602) x6_2.length co27) x6_2 (wrap64 ((rd x6_2 (ji22)) + t603)) [.int .i64 (wrap64 ((rd x6_2 (ji22)) + t603))] (fun _ => True) (fun _ => False) rfl rfl ?aP (fun _ hk => hk.elim) ?aF ?aO (Below.refl _ _) ?aS ?aL ?_
            (case aP => exact rfl)
            (case aF => exact (fun _ _ => trivial))
            (case aO => exact (by exact HO_6.out))
            (case aS => exact (keep_size (w := w) (g := g) (row := none) (by exact HK.out)))
            (case aL => have := LMc26.out; omega)
            intro v607 w31 ho hb hg hat
            rw [← Ny606.out] at ho
            have n0_ := Ak (IsS75.grown (by exact HI0.out) hg (IsS75.own_ne HI0.out HO_6.out (by decide)))
            have n1_ := Ak (below_weaken (by exact HB.out) HL.out hb)
            have n2_ := Ak (KeepBut.trans (by exact HK.out) (KeepBut.of_grown hg g) (Kd.R_base2 HO_6.out))
            have n3_ := Ak (ho)
            clear HI0 HB HK HO_6
            have HI0 := n0_
            have HB := n1_
            have HK := n2_
            have HO608 := n3_
            clear n0_ n1_ n2_ n3_ ho hb hg hat
            refine hK.out _ _ ?_
            clear hK K
            refine norm_ (a' := ?_) ?_ ?_
            rotate_left
            ·show Act.put _ (some 50) _ = _
             simp only [Act.put, List.setIfInBounds_toArray, List.set_cons_zero, List.set_cons_succ, i64_w, i32_w]
             rfl
            refine pure_ (i := 12) (N := some 6) (v := ?_) (a' := ?_) #[true, true, true, true, true, true, true, true, true, true, true, true, true] rfl rfl (any_of HT_.out (by kernel_rfl)) (fun _ _ _ h => h) (Or.inl ⟨by rfl, ?_⟩) ?_ ?_
            rotate_left
            ·intro w'
             go_simp
             with_reducible rfl
            rotate_left
            ·simp only [Act.put, List.setIfInBounds_toArray, List.set_cons_zero, List.set_cons_succ, i64_w, i32_w]
             rfl
            refine done_ (done_of HT_.out (by kernel_rfl)) ?_
            try go_wp2
            go_roundg k2
            case measure => have := HJ3.out; have := HK2.out; omega
            case rel => exact ⟨(y606), (t604), (t605), H', ⟨by have := HJ3.out; have := HK2.out; omega⟩, ⟨by exact HO608.out⟩, ⟨by exact HI0.out⟩, ⟨by exact HK.out⟩, ⟨by exact HB.out⟩⟩
           ·rw [if_neg c26] at H
            exact absurd H (by simp)
          ·rw [if_neg c24] at H
           exact absurd H (by simp)
         ·rw [if_neg c23] at H
          exact absurd H (by simp)
       ·rw [if_neg c18] at H
        have c18b0 : decide ((x6_2.length : Int) < t593) = false := decide_eq_false c18
        clear c18
        (skip)
        (try rw [c18b1])
        have H' := Ak H
        clear H
        obtain ⟨Ao32, co32, eo32⟩ := Kd.R_slice HO_6.out
        subst eo32
        go_wp2
        go_meet
        case rel => exact ⟨_, (x6_2), (x1000_2), (x1001_2), H', ⟨by have := HJ3.out; have := HK2.out; omega⟩, ⟨by exact HO_6.out⟩, ⟨by exact HI0.out⟩, ⟨by exact HK.out⟩, ⟨by exact HB.out⟩⟩
    case rest =>
     clear HC14
     obtain ⟨kq, x6_13, x1000_13, x1001_13, HA, HJ13, HO_6, HI0, HK, HB⟩ := hcut
     cases kq with
     | zero => exact absurd HA.out (by simp [q_reader_dict.j2])
     | succ kj13 =>
      have H := HA.out
      clear HA
      simp only [q_reader_dict.j2] at H
      by_cases c33 : x1001_13 = true
      ·subst c33
       replace H : (some (([] : List Int), x1000_13, true)) = some (r1, r2, r3) := by rw [if_pos rfl] at H; exact H
       simp only [Option.some.injEq, Prod.mk.injEq] at H
       obtain ⟨rfl, rfl, rfl⟩ := H
       obtain ⟨ASz34_0, cSz34_0, HGz34, hgz34, HSz34_0⟩ := HI0.out
       have hcz34_0 := cellS75_0 HGz34
       have hcz34_1 := cellS75_1 HGz34
       have hfz34_0 := blk_frozen HGz34 0
       have hfz34_1 := blk_frozen HGz34 1
       have HCSz34_0 := HSz34_0.1
       replace HSz34_0 := HSz34_0.2
       clear HGz34 hgz34
       go_wp2
       go_ret
       exact ⟨_, by rfl, by exact Kd.R_nil _ _ _ _ _, by exact HI0.out, by exact HB.out, by exact HK.out⟩
      ·replace c33 := Bool.eq_false_iff.mpr c33
       subst c33
       replace H : ((q_width.f (wrap64 (t593 - 1))).bind fun t609 => ((q_reader_unpacked.f kj13 x1000_13 false a1 t609).bind fun bt610 => ((q_reader_picked.f kj13 bt610.2.1 bt610.2.2 bt610.1 x6_13).bind fun bt615 => (some (bt615.1, bt615.2.1, bt615.2.2))))) = some (r1, r2, r3) := by rw [if_neg (show ¬ (false = true) by decide)] at H; exact H
       replace H := Option.bind_eq_some_iff.mp H
       obtain ⟨t609, A350, H⟩ := H
       replace H : ((q_reader_unpacked.f kj13 x1000_13 false a1 t609).bind fun bt610 => ((q_reader_picked.f kj13 bt610.2.1 bt610.2.2 bt610.1 x6_13).bind fun bt615 => (some (bt615.1, bt615.2.1, bt615.2.2)))) = some (r1, r2, r3) := H
       have A35 := Ak A350
       clear A350
       replace H := Option.bind_eq_some_iff.mp H
       obtain ⟨⟨t610, t613, t614⟩, A360, H⟩ := H
       replace H : ((q_reader_picked.f kj13 t613 t614 t610 x6_13).bind fun bt615 => (some (bt615.1, bt615.2.1, bt615.2.2))) = some (r1, r2, r3) := H
       have A36 := Ak A360
       clear A360
       replace H := Option.bind_eq_some_iff.mp H
       obtain ⟨⟨t615, t618, t619⟩, A370, H⟩ := H
       replace H : (some (t615, t618, t619)) = some (r1, r2, r3) := H
       have A37 := Ak A370
       clear A370
       simp only [Option.some.injEq, Prod.mk.injEq] at H
       obtain ⟨rfl, rfl, rfl⟩ := H
       obtain ⟨ASz38_0, cSz38_0, HGz38, hgz38, HSz38_0⟩ := HI0.out
       have hcz38_0 := cellS75_0 HGz38
       have hcz38_1 := cellS75_1 HGz38
       have hfz38_0 := blk_frozen HGz38 0
       have hfz38_1 := blk_frozen HGz38 1
       have HCSz38_0 := HSz38_0.1
       replace HSz38_0 := HSz38_0.2
       clear HGz38 hgz38
       go_wp2_with (first | ((with_reducible refine gate_callee (f := 104) rfl ?_); refine goesL_ (some 60) rfl rfl Try.func104 (by kernel_rfl) rfl #[.int .i64 (wrap64 (t593 - 1))] rfl (by (try simp only [lm]); rfl) ?_; (with_reducible refine (q_width.calls (wrap64 (t593 - 1)) t609 _ A35.out).mono ?_); rintro e w' ⟨rfl, ⟨nd, rfl⟩⟩; refine ⟨_, rfl, ?_⟩) | ((with_reducible refine gate_callee (f := 89) rfl ?_); refine goesL_ (some 61) rfl rfl Try.func89 (by kernel_rfl) rfl #[.pointer (some ⟨g, 0, none⟩), .int .i64 a1, .int .i64 t609] rfl (by (try simp only [lm]); rfl) ?_; (with_reducible refine (q_reader_unpacked.calls kj13 g x1000_13 false a1 t609 t610 t613 t614 w0 _ ?side1 ?side2 A36.out).mono ?_); (case side1 => repeat ((with_reducible first | exact HI0.out | apply IsS75.drewN ))); (case side2 => repeat ((with_reducible first | exact HB.out | apply pw_below_drewN ))); rintro e w39 ⟨v611, rfl, ho0, hi, hb, hk⟩; refine ⟨_, rfl, ?_⟩; have n0_ := Ak (Kd.R_mono (Kd.R_told (Kd.R_oldK (IsS75.apart (show IsS75 w0 _ g x1000_13 false from by repeat ((with_reducible first | exact HI0.out | apply IsS75.drewN ))) (by (with_reducible repeat (apply Kd.R_drewN)); exact HO_6.out) (by decide)) hk) (Kd.R_base ho0)) (fun _ h_ => h_.1)); have n1_ := Ak (Kd.R_lower (Kd.R_new' ho0 (Kd.R_lt (by (with_reducible repeat (apply Kd.R_drewN)); exact HO_6.out))) (keep_size (w := w) (g := g) (row := none) (by repeat ((with_reducible first | exact HK.out | apply keep_drewN ))))); have n2_ := Ak (KeepBut.trans (by repeat ((with_reducible first | exact HK.out | apply keep_drewN ))) hk (.inl rfl)); have n3_ := Ak (hb); have n4_ := Ak (hi); clear HO_6 HK HB HI0; have HO_6 := n0_; have HO612 := n1_; have HK := n2_; have HB := n3_; have HI0 := n4_; clear n0_ n1_ n2_ n3_ n4_; (try clear hb); (try clear hk); (try clear hi); (try clear ho0); obtain ⟨Ao40, co40, eo40⟩ := Kd.R_slice HO612.out; subst eo40; obtain ⟨Ao41, co41, eo41⟩ := Kd.R_slice HO_6.out; subst eo41) | ((with_reducible refine gate_callee (f := 117) rfl ?_); refine goesL_ (some 63) rfl rfl Try.func117 (by kernel_rfl) rfl #[.pointer (some ⟨g, 0, none⟩), .slice Ao40 t610.length co40, .slice Ao41 x6_13.length co41] rfl (by (try simp only [lm]); rfl) ?_; (with_reducible refine (q_reader_picked.calls kj13 g t613 t614 _ _ t610 _ _ x6_13 t615 t618 t619 w0 _ ?side1 ?side2 ?side3 ?side4 ?side5 ?side6 ?side7 ?side8 A37.out).mono ?_); (case side1 => exact HI0.out); (case side2 => exact HB.out); (case side3 => repeat (exact (Kd.R_reads' HO612.out).2.2)); (case side4 => exact (Kd.R_reads' HO612.out).2.1); (case side5 => exact far_slice (IsS75.own_ne HI0.out HO612.out (by decide))); (case side6 => repeat (exact (Kd.R_reads' HO_6.out).2.2)); (case side7 => exact (Kd.R_reads' HO_6.out).2.1); (case side8 => exact far_slice (IsS75.own_ne HI0.out HO_6.out (by decide))); rintro e w42 ⟨v616, rfl, ho0, hi, hb, hk⟩; refine ⟨_, rfl, ?_⟩; have n0_ := Ak (Kd.R_mono (Kd.R_told (Kd.R_oldK (IsS75.apart (show IsS75 w0 _ g t613 t614 from by exact HI0.out) (by exact HO_6.out) (by decide)) hk) (Kd.R_base ho0)) (fun _ h_ => h_.1)); have n1_ := Ak (Kd.R_mono (Kd.R_told (Kd.R_oldK (IsS75.apart (show IsS75 w0 _ g t613 t614 from by exact HI0.out) (by exact HO612.out) (by decide)) hk) (Kd.R_base ho0)) (fun _ h_ => h_.1)); have n2_ := Ak (Kd.R_lower (Kd.R_new' (Kd.R_new' ho0 (Kd.R_lt (by exact HO_6.out))) (Kd.R_lt (by exact HO612.out))) (keep_size (w := w) (g := g) (row := none) (by exact HK.out))); have n3_ := Ak (KeepBut.trans (by exact HK.out) hk (.inl rfl)); have n4_ := Ak (hb); have n5_ := Ak (hi); clear HO_6 HO612 HK HB HI0; have HO_6 := n0_; have HO612 := n1_; have HO617 := n2_; have HK := n3_; have HB := n4_; have HI0 := n5_; clear n0_ n1_ n2_ n3_ n4_ n5_; (try clear hb); (try clear hk); (try clear hi); (try clear ho0)))
       go_ret
       exact ⟨_, by rfl, by exact Kd.R_mono HO617.out (fun _ hk => trivial), by exact HI0.out, by exact HB.out, by exact HK.out⟩
mutual
def q_reader_values.l0 : Nat → Int → List Int → List Int → Bool → Option (List Int × List Int × Bool)
 | 0, _, _, _, _ => none
 | k + 1, x2, x7, x1000, x1001 => if (x7.length : Int) < x2 then (if x1001 = true then (some (x7, x1000, x1001)) else ((q_reader_number.f k x1000 x1001).bind fun bt620 => (if x7.length < 17592186044416 then (q_reader_values.l0 k x2 (x7 ++ [bt620.1]) bt620.2.1 bt620.2.2) else (none)))) else (some (x7, x1000, x1001))
def q_reader_values.l1 : Nat → List Int → Int → List Int → Int → Int → List Int → Bool → Option (List Int × List Int × Bool)
 | 0, _, _, _, _, _, _, _ => none
 | k + 1, x7, x8, x54, x55, x56, x1000, x1001 => if x56 < x55 then (if 0 ≤ x56 then (if x56 < (x54.length : Int) then (if x7.length < 17592186044416 then (q_reader_values.l1 k (x7 ++ [wrap64 (x8 + (rd x54 x56))]) x8 x54 x55 (wrap64 (x56 + 1)) x1000 x1001) else (none)) else (none)) else (none)) else (some (x7, x1000, x1001))
def q_reader_values.l2 : Nat → Int → List Int → Int → List Int → Bool → Option (List Int × List Int × Bool)
 | 0, _, _, _, _, _ => none
 | k + 1, x2, x7, x12, x1000, x1001 => if (x7.length : Int) < x2 then (if x1001 = true then (some (x7, x1000, x1001)) else ((q_reader_number.f k x1000 x1001).bind fun bt651 => (if x7.length < 17592186044416 then (q_reader_values.l2 k x2 (x7 ++ [wrap64 (x12 + bt651.1)]) (wrap64 (x12 + bt651.1)) bt651.2.1 bt651.2.2) else (none)))) else (some (x7, x1000, x1001))
end
def q_reader_values.f (k : Nat) (s0_0 : List Int) (s0_1 : Bool) (a1 : Int) (a2 : Int) : Option (List Int × List Int × Bool) := if a1 = 1 then (q_reader_values.l0 k a2 ([] : List Int) s0_0 s0_1) else (if a1 = 2 then ((q_reader_runs.f k s0_0 s0_1 a2).bind fun bt626 => (some (bt626.1, bt626.2.1, bt626.2.2))) else (if a1 = 3 then ((q_reader_dict.f k s0_0 s0_1 a2).bind fun bt631 => (some (bt631.1, bt631.2.1, bt631.2.2))) else (if a1 = 4 then ((q_reader_number.f k s0_0 s0_1).bind fun bt636 => ((q_reader_byte.f bt636.2.1 bt636.2.2).bind fun bt639 => ((q_reader_unpacked.f k bt639.2.1 bt639.2.2 a2 bt639.1).bind fun bt642 => (q_reader_values.l1 k ([] : List Int) bt636.1 bt642.1 (bt642.1.length : Int) 0 bt642.2.1 bt642.2.2)))) else (if a1 = 5 then (q_reader_values.l2 k a2 ([] : List Int) 0 s0_0 s0_1) else (some (([] : List Int), s0_0, true))))))
theorem q_reader_values.mono_l : ∀ k, (∀ y0 y1 y2 y3, LeO (q_reader_values.l0 k y0 y1 y2 y3) (q_reader_values.l0 (k + 1) y0 y1 y2 y3)) ∧ (∀ y0 y1 y2 y3 y4 y5 y6, LeO (q_reader_values.l1 k y0 y1 y2 y3 y4 y5 y6) (q_reader_values.l1 (k + 1) y0 y1 y2 y3 y4 y5 y6)) ∧ (∀ y0 y1 y2 y3 y4, LeO (q_reader_values.l2 k y0 y1 y2 y3 y4) (q_reader_values.l2 (k + 1) y0 y1 y2 y3 y4))
 | 0 => ⟨fun _ _ _ _ r h => by simp [q_reader_values.l0] at h, fun _ _ _ _ _ _ _ r h => by simp [q_reader_values.l1] at h, fun _ _ _ _ _ r h => by simp [q_reader_values.l2] at h⟩
 | k + 1 => by
  obtain ⟨ih0, ih1, ih2⟩ := q_reader_values.mono_l k
  refine ⟨?_, ?_, ?_⟩ <;> intros
  all_goals (first | unfold q_reader_values.l0 | unfold q_reader_values.l1 | unfold q_reader_values.l2)
  all_goals
   repeat' first
   | (with_reducible exact ih0 _ _ _ _)
   | (with_reducible exact ih1 _ _ _ _ _ _ _)
   | (with_reducible exact ih2 _ _ _ _ _)
   | (with_reducible exact q_reader_number.mono _ _ _)
   | (with_reducible exact LeO.refl _)
   | (with_reducible refine LeO.ite ?_ ?_)
   | (with_reducible refine LeO.bind ?_ (fun _ => ?_))
theorem q_reader_values.mono : ∀ a0 a1 a2 a3 k, LeO (q_reader_values.f k a0 a1 a2 a3) (q_reader_values.f (k + 1) a0 a1 a2 a3) := by
 intro a0 a1 a2 a3 k
 obtain ⟨ih0, ih1, ih2⟩ := q_reader_values.mono_l k
 unfold q_reader_values.f
 repeat' first
  | (with_reducible exact ih0 _ _ _ _)
  | (with_reducible exact ih1 _ _ _ _ _ _ _)
  | (with_reducible exact ih2 _ _ _ _ _)
  | (with_reducible exact q_reader_dict.mono _ _ _ _)
  | (with_reducible exact q_reader_number.mono _ _ _)
  | (with_reducible exact q_reader_runs.mono _ _ _ _)
  | (with_reducible exact q_reader_unpacked.mono _ _ _ _ _)
  | (with_reducible exact LeO.refl _)
  | (with_reducible refine LeO.ite ?_ ?_)
  | (with_reducible refine LeO.bind ?_ (fun _ => ?_))
set_option maxHeartbeats 8000000 in
set_option maxRecDepth 100000 in
theorem q_reader_values.calls (k : Nat) (g : Nat) (s0_0 : List Int) (s0_1 : Bool) (a1 : Int) (a2 : Int) (r1 : List Int) (r2 : List Int) (r3 : Bool) (w0 w : World) (hI : IsS75 w0 w g s0_0 s0_1) (hB : Below w0.heap.size w0 w) (h : q_reader_values.f k s0_0 s0_1 a1 a2 = some (r1, r2, r3)) :
 Calls Try.prog 64 #[.pointer (some ⟨g, 0, none⟩), .int .i64 a1, .int .i64 a2] w fun e w' => ∃ v0_ : Value, e = .returned (v0_) ∧ Kd.R (Kd.int .i64) 3 w' w.heap.size (fun _ => True) v0_ r1 ∧ IsS75 w0 w' g r2 r3 ∧ Below w0.heap.size w0 w' ∧ KeepBut w w' g none := by
 have HI0 := Ak hI
 have HK := Ak (KeepBut.refl w g none)
 have HL := Ak hB.size
 clear hI
 have HW0 := Ak hB.size
 have HB := Ak hB
 have HBZ := Ak hB
 clear hB
 have H : (if a1 = 1 then (q_reader_values.l0 k a2 ([] : List Int) s0_0 s0_1) else (if a1 = 2 then ((q_reader_runs.f k s0_0 s0_1 a2).bind fun bt626 => (some (bt626.1, bt626.2.1, bt626.2.2))) else (if a1 = 3 then ((q_reader_dict.f k s0_0 s0_1 a2).bind fun bt631 => (some (bt631.1, bt631.2.1, bt631.2.2))) else (if a1 = 4 then ((q_reader_number.f k s0_0 s0_1).bind fun bt636 => ((q_reader_byte.f bt636.2.1 bt636.2.2).bind fun bt639 => ((q_reader_unpacked.f k bt639.2.1 bt639.2.2 a2 bt639.1).bind fun bt642 => (q_reader_values.l1 k ([] : List Int) bt636.1 bt642.1 (bt642.1.length : Int) 0 bt642.2.1 bt642.2.2)))) else (if a1 = 5 then (q_reader_values.l2 k a2 ([] : List Int) 0 s0_0 s0_1) else (some (([] : List Int), s0_0, true))))))) = some (r1, r2, r3) := h
 clear h
 by_cases c4 : a1 = 1
 ·rw [if_pos c4] at H
  have c4b0 : (a1 == 1) = true := beq_iff_eq.mpr c4
  have c4b1 : (a1 != 1) = false := bne_eq_false_iff_eq.mpr c4
  clear c4
  have H' := Ak H
  clear H
  go_enter Try.func64, Try.ntmps64
  go_wp2
  go_loopg [7] k (fun kq v7 w' => ∃ (x7_1 : List Int) (x1000_1 : List Int) (x1001_1 : Bool), Aside0 (q_reader_values.l0 kq a2 x7_1 x1000_1 x1001_1 = some (r1, r2, r3)) ∧ Aside0 (kq ≤ k) ∧ Aside0 (Kd.R (Kd.int .i64) 3 w' w.heap.size (fun _ => True) v7 x7_1) ∧ Aside0 (IsS75 w0 w' g x1000_1 x1001_1) ∧ Aside0 (KeepBut w w' g none) ∧ Aside0 (Below w0.heap.size w0 w'))
  case atStart => exact ⟨(([] : List Int)), (s0_0), (s0_1), H', ⟨Nat.le_refl _⟩, ⟨by exact Kd.R_nil _ _ _ _ _⟩, ⟨by exact HI0.out⟩, ⟨by exact HK.out⟩, ⟨by exact HB.out⟩⟩
  case round =>
   clear H'
   try clear c4b0
   try clear c4b1
   obtain ⟨x7_1, x1000_1, x1001_1, HA, HK1, HO_7, HI0, HK, HB⟩ := hrel
   cases gk with
   | zero => exact absurd HA.out (by simp [q_reader_values.l0])
   | succ k1 =>
    have H := HA.out
    clear HA
    simp only [q_reader_values.l0] at H
    by_cases c5 : (x7_1.length : Int) < a2
    ·rw [if_pos c5] at H
     have c5b0 : decide ((x7_1.length : Int) < a2) = true := decide_eq_true c5
     clear c5
     by_cases c6 : x1001_1 = true
     ·subst c6
      replace H : (some (x7_1, x1000_1, true)) = some (r1, r2, r3) := by rw [if_pos rfl] at H; exact H
      simp only [Option.some.injEq, Prod.mk.injEq] at H
      obtain ⟨rfl, rfl, rfl⟩ := H
      obtain ⟨Ao7, co7, eo7⟩ := Kd.R_slice HO_7.out
      subst eo7
      obtain ⟨ASz8_0, cSz8_0, HGz8, hgz8, HSz8_0⟩ := HI0.out
      have hcz8_0 := cellS75_0 HGz8
      have hcz8_1 := cellS75_1 HGz8
      have hfz8_0 := blk_frozen HGz8 0
      have hfz8_1 := blk_frozen HGz8 1
      have HCSz8_0 := HSz8_0.1
      replace HSz8_0 := HSz8_0.2
      clear HGz8 hgz8
      go_wp2
      go_ret
      exact ⟨_, by rfl, by exact HO_7.out, by exact HI0.out, by exact HB.out, by exact HK.out⟩
     ·replace c6 := Bool.eq_false_iff.mpr c6
      subst c6
      replace H : ((q_reader_number.f k1 x1000_1 false).bind fun bt620 => (if x7_1.length < 17592186044416 then (q_reader_values.l0 k1 a2 (x7_1 ++ [bt620.1]) bt620.2.1 bt620.2.2) else (none))) = some (r1, r2, r3) := by rw [if_neg (show ¬ (false = true) by decide)] at H; exact H
      replace H := Option.bind_eq_some_iff.mp H
      obtain ⟨⟨t620, t621, t622⟩, A90, H⟩ := H
      replace H : (if x7_1.length < 17592186044416 then (q_reader_values.l0 k1 a2 (x7_1 ++ [t620]) t621 t622) else (none)) = some (r1, r2, r3) := H
      have A9 := Ak A90
      clear A90
      by_cases c10 : x7_1.length < 17592186044416
      ·rw [if_pos c10] at H
       have LMc10 := Ak c10
       clear c10
       obtain ⟨y623, hy623⟩ : ∃ y_ : List Int, y_ = (x7_1 ++ [t620]) := ⟨_, rfl⟩
       replace H : (q_reader_values.l0 k1 a2 y623 t621 t622) = some (r1, r2, r3) := by (rw [hy623]; with_reducible exact H)
       have Ny623 := Ak hy623
       clear hy623
       have H' := Ak H
       clear H
       obtain ⟨Ao11, co11, eo11⟩ := Kd.R_slice HO_7.out
       subst eo11
       obtain ⟨ASz12_0, cSz12_0, HGz12, hgz12, HSz12_0⟩ := HI0.out
       have hcz12_0 := cellS75_0 HGz12
       have hcz12_1 := cellS75_1 HGz12
       have hfz12_0 := blk_frozen HGz12 0
       have hfz12_1 := blk_frozen HGz12 1
       have HCSz12_0 := HSz12_0.1
       replace HSz12_0 := HSz12_0.2
       clear HGz12 hgz12
       go_wp2_with (first | ((with_reducible refine gate_callee (f := 86) rfl ?_); refine goesL_ (some 32) rfl rfl Try.func86 (by kernel_rfl) rfl #[.pointer (some ⟨g, 0, none⟩)] rfl (by (try simp only [lm]); rfl) ?_; (with_reducible refine (q_reader_number.calls k1 g x1000_1 false t620 t621 t622 w0 _ ?side1 ?side2 A9.out).mono ?_); (case side1 => exact HI0.out); (case side2 => exact HB.out); rintro e w13 ⟨rfl, hi, hb, hk⟩; refine ⟨_, rfl, ?_⟩; have n0_ := Ak (Kd.R_mono (Kd.R_keep (IsS75.apart (show IsS75 w0 _ g x1000_1 false from by exact HI0.out) (by exact HO_7.out) (by decide)) hk (fun _ h => h.2)) (fun _ h => h.1)); have n1_ := Ak (KeepBut.trans (by exact HK.out) hk (.inl rfl)); have n2_ := Ak (hb); have n3_ := Ak (hi); clear HO_7 HK HB HI0; have HO_7 := n0_; have HK := n1_; have HB := n2_; have HI0 := n3_; clear n0_ n1_ n2_ n3_; (try clear hb); (try clear hk); (try clear hi)) | ((with_reducible refine gate_builtin (b := .append) (xs := #[.tmp 30, .tmp 33]) rfl ?_); at_builtin; refine Kd.R_append (Kd.int .i64) w.heap.size rfl (.tmp 30) (.tmp 33) 22 3 (.int .i64 0) 8 rfl Try.underlying22 info3 rfl (by decide) (by omega) (.slice Ao11 x7_1.length co11) x7_1 t620 [.int .i64 t620] (fun _ => True) (fun _ => False) rfl rfl ?aP (fun _ hk => hk.elim) ?aF ?aO (Below.refl _ _) ?aS ?aL ?_; (case aP => exact rfl); (case aF => exact (fun _ _ => trivial)); (case aO => exact (by exact HO_7.out)); (case aS => exact (keep_size (w := w) (g := g) (row := none) (by exact HK.out))); (case aL => have := LMc10.out; omega); intro v624 w14 ho hb hg hat; rw [← Ny623.out] at ho; have n0_ := Ak (IsS75.grown (by exact HI0.out) hg (IsS75.own_ne HI0.out HO_7.out (by decide))); have n1_ := Ak (below_weaken (by exact HB.out) HL.out hb); have n2_ := Ak (KeepBut.trans (by exact HK.out) (KeepBut.of_grown hg g) (Kd.R_base2 HO_7.out)); have n3_ := Ak (ho); clear HI0 HB HK HO_7; have HI0 := n0_; have HB := n1_; have HK := n2_; have HO625 := n3_; clear n0_ n1_ n2_ n3_ ho hb hg hat))
       go_roundg k1
       case measure => have := HK1.out; omega
       case rel => exact ⟨(y623), (t621), (t622), H', ⟨by have := HK1.out; omega⟩, ⟨by exact HO625.out⟩, ⟨by exact HI0.out⟩, ⟨by exact HK.out⟩, ⟨by exact HB.out⟩⟩
      ·rw [if_neg c10] at H
       exact absurd H (by simp)
    ·rw [if_neg c5] at H
     have c5b0 : decide ((x7_1.length : Int) < a2) = false := decide_eq_false c5
     clear c5
     simp only [Option.some.injEq, Prod.mk.injEq] at H
     obtain ⟨rfl, rfl, rfl⟩ := H
     obtain ⟨Ao15, co15, eo15⟩ := Kd.R_slice HO_7.out
     subst eo15
     go_wp2
     go_ret
     exact ⟨_, by rfl, by exact HO_7.out, by exact HI0.out, by exact HB.out, by exact HK.out⟩
 ·rw [if_neg c4] at H
  have c4b0 : (a1 == 1) = false := beq_eq_false_iff_ne.mpr c4
  have c4b1 : (a1 != 1) = true := bne_iff_ne.mpr c4
  by_cases c16 : a1 = 2
  ·rw [if_pos c16] at H
   have c16b0 : (a1 == 2) = true := beq_iff_eq.mpr c16
   have c16b1 : (a1 != 2) = false := bne_eq_false_iff_eq.mpr c16
   clear c16
   replace H := Option.bind_eq_some_iff.mp H
   obtain ⟨⟨t626, t629, t630⟩, A170, H⟩ := H
   replace H : (some (t626, t629, t630)) = some (r1, r2, r3) := H
   have A17 := Ak A170
   clear A170
   simp only [Option.some.injEq, Prod.mk.injEq] at H
   obtain ⟨rfl, rfl, rfl⟩ := H
   go_enter Try.func64, Try.ntmps64
   go_wp2_with (first | ((with_reducible refine gate_callee (f := 87) rfl ?_); refine goesL_ (some 39) rfl rfl Try.func87 (by kernel_rfl) rfl #[.pointer (some ⟨g, 0, none⟩), .int .i64 a2] rfl (by (try simp only [lm]); rfl) ?_; (with_reducible refine (q_reader_runs.calls k g s0_0 s0_1 a2 t626 t629 t630 w0 _ ?side1 ?side2 A17.out).mono ?_); (case side1 => exact HI0.out); (case side2 => exact HB.out); rintro e w18 ⟨v627, rfl, ho0, hi, hb, hk⟩; refine ⟨_, rfl, ?_⟩; have n0_ := Ak (Kd.R_lower ho0 (keep_size (w := w) (g := g) (row := none) (by exact HK.out))); have n1_ := Ak (KeepBut.trans (by exact HK.out) hk (.inl rfl)); have n2_ := Ak (hb); have n3_ := Ak (hi); clear HK HB HI0; have HO628 := n0_; have HK := n1_; have HB := n2_; have HI0 := n3_; clear n0_ n1_ n2_ n3_; (try clear hb); (try clear hk); (try clear hi); (try clear ho0)))
   go_ret
   exact ⟨_, by rfl, by exact HO628.out, by exact HI0.out, by exact HB.out, by exact HK.out⟩
  ·rw [if_neg c16] at H
   have c16b0 : (a1 == 2) = false := beq_eq_false_iff_ne.mpr c16
   have c16b1 : (a1 != 2) = true := bne_iff_ne.mpr c16
   by_cases c19 : a1 = 3
   ·rw [if_pos c19] at H
    have c19b0 : (a1 == 3) = true := beq_iff_eq.mpr c19
    have c19b1 : (a1 != 3) = false := bne_eq_false_iff_eq.mpr c19
    clear c19
    replace H := Option.bind_eq_some_iff.mp H
    obtain ⟨⟨t631, t634, t635⟩, A200, H⟩ := H
    replace H : (some (t631, t634, t635)) = some (r1, r2, r3) := H
    have A20 := Ak A200
    clear A200
    simp only [Option.some.injEq, Prod.mk.injEq] at H
    obtain ⟨rfl, rfl, rfl⟩ := H
    go_enter Try.func64, Try.ntmps64
    go_wp2_with (first | ((with_reducible refine gate_callee (f := 88) rfl ?_); refine goesL_ (some 44) rfl rfl Try.func88 (by kernel_rfl) rfl #[.pointer (some ⟨g, 0, none⟩), .int .i64 a2] rfl (by (try simp only [lm]); rfl) ?_; (with_reducible refine (q_reader_dict.calls k g s0_0 s0_1 a2 t631 t634 t635 w0 _ ?side1 ?side2 A20.out).mono ?_); (case side1 => exact HI0.out); (case side2 => exact HB.out); rintro e w21 ⟨v632, rfl, ho0, hi, hb, hk⟩; refine ⟨_, rfl, ?_⟩; have n0_ := Ak (Kd.R_lower ho0 (keep_size (w := w) (g := g) (row := none) (by exact HK.out))); have n1_ := Ak (KeepBut.trans (by exact HK.out) hk (.inl rfl)); have n2_ := Ak (hb); have n3_ := Ak (hi); clear HK HB HI0; have HO633 := n0_; have HK := n1_; have HB := n2_; have HI0 := n3_; clear n0_ n1_ n2_ n3_; (try clear hb); (try clear hk); (try clear hi); (try clear ho0)))
    go_ret
    exact ⟨_, by rfl, by exact HO633.out, by exact HI0.out, by exact HB.out, by exact HK.out⟩
   ·rw [if_neg c19] at H
    have c19b0 : (a1 == 3) = false := beq_eq_false_iff_ne.mpr c19
    have c19b1 : (a1 != 3) = true := bne_iff_ne.mpr c19
    by_cases c22 : a1 = 4
    ·rw [if_pos c22] at H
     have c22b0 : (a1 == 4) = true := beq_iff_eq.mpr c22
     have c22b1 : (a1 != 4) = false := bne_eq_false_iff_eq.mpr c22
     clear c22
     replace H := Option.bind_eq_some_iff.mp H
     obtain ⟨⟨t636, t637, t638⟩, A230, H⟩ := H
     replace H : ((q_reader_byte.f t637 t638).bind fun bt639 => ((q_reader_unpacked.f k bt639.2.1 bt639.2.2 a2 bt639.1).bind fun bt642 => (q_reader_values.l1 k ([] : List Int) t636 bt642.1 (bt642.1.length : Int) 0 bt642.2.1 bt642.2.2))) = some (r1, r2, r3) := H
     have A23 := Ak A230
     clear A230
     replace H := Option.bind_eq_some_iff.mp H
     obtain ⟨⟨t639, t640, t641⟩, A240, H⟩ := H
     replace H : ((q_reader_unpacked.f k t640 t641 a2 t639).bind fun bt642 => (q_reader_values.l1 k ([] : List Int) t636 bt642.1 (bt642.1.length : Int) 0 bt642.2.1 bt642.2.2)) = some (r1, r2, r3) := H
     have A24 := Ak A240
     clear A240
     replace H := Option.bind_eq_some_iff.mp H
     obtain ⟨⟨t642, t645, t646⟩, A250, H⟩ := H
     replace H : (q_reader_values.l1 k ([] : List Int) t636 t642 (t642.length : Int) 0 t645 t646) = some (r1, r2, r3) := H
     have A25 := Ak A250
     clear A250
     have H' := Ak H
     clear H
     go_enter Try.func64, Try.ntmps64
     go_wp2_with (first | ((with_reducible refine gate_callee (f := 86) rfl ?_); refine goesL_ (some 48) rfl rfl Try.func86 (by kernel_rfl) rfl #[.pointer (some ⟨g, 0, none⟩)] rfl (by (try simp only [lm]); rfl) ?_; (with_reducible refine (q_reader_number.calls k g s0_0 s0_1 t636 t637 t638 w0 _ ?side1 ?side2 A23.out).mono ?_); (case side1 => exact HI0.out); (case side2 => exact HB.out); rintro e w26 ⟨rfl, hi, hb, hk⟩; refine ⟨_, rfl, ?_⟩; have n0_ := Ak (KeepBut.trans (by exact HK.out) hk (.inl rfl)); have n1_ := Ak (hb); have n2_ := Ak (hi); clear HK HB HI0; have HK := n0_; have HB := n1_; have HI0 := n2_; clear n0_ n1_ n2_; (try clear hb); (try clear hk); (try clear hi)) | ((with_reducible refine gate_callee (f := 59) rfl ?_); refine goesL_ (some 50) rfl rfl Try.func59 (by kernel_rfl) rfl #[.pointer (some ⟨g, 0, none⟩)] rfl (by (try simp only [lm]); rfl) ?_; (with_reducible refine (q_reader_byte.calls g t637 t638 t639 t640 t641 w0 _ ?side1 ?side2 A24.out).mono ?_); (case side1 => exact HI0.out); (case side2 => exact HB.out); rintro e w27 ⟨rfl, hi, hb, hk⟩; refine ⟨_, rfl, ?_⟩; have n0_ := Ak (KeepBut.trans (by exact HK.out) hk (.inl rfl)); have n1_ := Ak (hb); have n2_ := Ak (hi); clear HK HB HI0; have HK := n0_; have HB := n1_; have HI0 := n2_; clear n0_ n1_ n2_; (try clear hb); (try clear hk); (try clear hi)) | ((with_reducible refine gate_callee (f := 89) rfl ?_); refine goesL_ (some 54) rfl rfl Try.func89 (by kernel_rfl) rfl #[.pointer (some ⟨g, 0, none⟩), .int .i64 a2, .int .i64 t639] rfl (by (try simp only [lm]); rfl) ?_; (with_reducible refine (q_reader_unpacked.calls k g t640 t641 a2 t639 t642 t645 t646 w0 _ ?side1 ?side2 A25.out).mono ?_); (case side1 => exact HI0.out); (case side2 => exact HB.out); rintro e w28 ⟨v643, rfl, ho0, hi, hb, hk⟩; refine ⟨_, rfl, ?_⟩; have n0_ := Ak (Kd.R_lower ho0 (keep_size (w := w) (g := g) (row := none) (by exact HK.out))); have n1_ := Ak (KeepBut.trans (by exact HK.out) hk (.inl rfl)); have n2_ := Ak (hb); have n3_ := Ak (hi); clear HK HB HI0; have HO644 := n0_; have HK := n1_; have HB := n2_; have HI0 := n3_; clear n0_ n1_ n2_ n3_; (try clear hb); (try clear hk); (try clear hi); (try clear ho0); obtain ⟨Ao29, co29, eo29⟩ := Kd.R_slice HO644.out; subst eo29))
     go_loopg [7, 56] k (fun kq v7 v56 w' => ∃ (x7_1 : List Int) (x56_1 : Int), v56 = .int .i64 x56_1 ∧ Aside0 (q_reader_values.l1 kq x7_1 t636 t642 (t642.length : Int) x56_1 t645 t646 = some (r1, r2, r3)) ∧ Aside0 (kq ≤ k) ∧ Aside0 (Kd.R (Kd.int .i64) 3 w' w.heap.size (fun k_ => some k_ ≠ ((.slice Ao29 t642.length co29) : Value).ownBlock) v7 x7_1) ∧ Aside0 (Kd.R (Kd.int .i64) 3 w' w.heap.size (fun k_ => some k_ ≠ (v7 : Value).ownBlock) (.slice Ao29 t642.length co29) t642) ∧ Aside0 (IsS75 w0 w' g t645 t646) ∧ Aside0 (KeepBut w w' g none) ∧ Aside0 (Below w0.heap.size w0 w'))
     case atStart => exact ⟨(([] : List Int)), (0), (by rfl), H', ⟨Nat.le_refl _⟩, ⟨by exact Kd.R_nil _ _ _ _ _⟩, ⟨by exact Kd.R_mono HO644.out (fun _ hk => (by simp [Value.ownBlock]))⟩, ⟨by exact HI0.out⟩, ⟨by exact HK.out⟩, ⟨by exact HB.out⟩⟩
     case round =>
      clear H'
      try clear c4
      try clear c4b0
      try clear c4b1
      try clear c16
      try clear c16b0
      try clear c16b1
      try clear c19
      try clear c19b0
      try clear c19b1
      try clear c22b0
      try clear c22b1
      obtain ⟨x7_1, x56_1, rfl, HA, HK1, HO_7, HO_54, HI0, HK, HB⟩ := hrel
      cases gk with
      | zero => exact absurd HA.out (by simp [q_reader_values.l1])
      | succ k1 =>
       have H := HA.out
       clear HA
       simp only [q_reader_values.l1] at H
       by_cases c30 : x56_1 < (t642.length : Int)
       ·rw [if_pos c30] at H
        have c30b0 : decide (x56_1 < (t642.length : Int)) = true := decide_eq_true c30
        clear c30
        by_cases c31 : 0 ≤ x56_1
        ·rw [if_pos c31] at H
         have c31b0 : decide (0 ≤ x56_1) = true := decide_eq_true c31
         clear c31
         by_cases c32 : x56_1 < (t642.length : Int)
         ·rw [if_pos c32] at H
          have c32b0 : decide (x56_1 < (t642.length : Int)) = true := decide_eq_true c32
          clear c32
          by_cases c33 : x7_1.length < 17592186044416
          ·rw [if_pos c33] at H
           have LMc33 := Ak c33
           clear c33
           obtain ⟨y648, hy648⟩ : ∃ y_ : List Int, y_ = (x7_1 ++ [wrap64 (t636 + (rd t642 x56_1))]) := ⟨_, rfl⟩
           replace H : (q_reader_values.l1 k1 y648 t636 t642 (t642.length : Int) (wrap64 (x56_1 + 1)) t645 t646) = some (r1, r2, r3) := by (rw [hy648]; with_reducible exact H)
           have Ny648 := Ak hy648
           clear hy648
           have H' := Ak H
           clear H
           have p647 : 0 ≤ (x56_1 : Int) := of_decide_eq_true (by (with_reducible assumption))
           have q647 : x56_1 < (t642.length : Int) := of_decide_eq_true (by (with_reducible assumption))
           obtain ⟨ad647, e647, hx647_0⟩ := Kd.at_int (Kd.R_reads' HO_54.out).2.2 x56_1 p647 q647
           cases e647
           replace p647 := eq_true p647
           replace q647 := eq_true q647
           go_wp2_with (first | ((with_reducible refine gate_builtin (b := .append) (xs := #[.tmp 60, .tmp 64]) rfl ?_); at_builtin; refine Kd.R_append (Kd.int .i64) w.heap.size rfl (.tmp 60) (.tmp 64) 22 3 (.int .i64 0) 8 rfl Try.underlying22 info3 rfl (by decide) (by omega) u7 x7_1 (wrap64 (t636 + (rd t642 x56_1))) [.int .i64 (wrap64 (t636 + (rd t642 x56_1)))] (fun k_ => some k_ ≠ (.slice (some ad647) t642.length co29 : Value).ownBlock) (fun _ => False) rfl rfl ?aP (fun _ hk => hk.elim) ?aF ?aO (Below.refl _ _) ?aS ?aL ?_; (case aP => exact rfl); (case aF => exact (fun k_ hk => Kd.fresh' (Kd.R_lt (by exact HO_54.out)) k_ hk)); (case aO => exact (by exact HO_7.out)); (case aS => exact (keep_size (w := w) (g := g) (row := none) (by exact HK.out))); (case aL => have := LMc33.out; omega); intro v649 w34 ho hb hg hat; rw [← Ny648.out] at ho; have n0_ := Ak (Kd.R_after (ok := (fun _ => True)) (by exact Kd.R_mono HO_54.out (fun _ hk => ⟨trivial, hk⟩)) hg hat); have n1_ := Ak (IsS75.grown (by exact HI0.out) hg (IsS75.own_ne HI0.out HO_7.out (by decide))); have n2_ := Ak (below_weaken (by exact HB.out) HL.out hb); have n3_ := Ak (KeepBut.trans (by exact HK.out) (KeepBut.of_grown hg g) (Kd.R_base2 HO_7.out)); have n4_ := Ak (ho); clear HO_54 HI0 HB HK HO_7; have HO_54 := n0_; have HI0 := n1_; have HB := n2_; have HK := n3_; have HO650 := n4_; clear n0_ n1_ n2_ n3_ n4_ ho hb hg hat))
           go_roundg k1
           case measure => have := HK1.out; omega
           case rel => exact ⟨(y648), (wrap64 (x56_1 + 1)), (by rfl), H', ⟨by have := HK1.out; omega⟩, ⟨by exact HO650.out⟩, ⟨by exact Kd.R_mono HO_54.out (fun _ hk => hk.2)⟩, ⟨by exact HI0.out⟩, ⟨by exact HK.out⟩, ⟨by exact HB.out⟩⟩
          ·rw [if_neg c33] at H
           exact absurd H (by simp)
         ·rw [if_neg c32] at H
          exact absurd H (by simp)
        ·rw [if_neg c31] at H
         exact absurd H (by simp)
       ·rw [if_neg c30] at H
        have c30b0 : decide (x56_1 < (t642.length : Int)) = false := decide_eq_false c30
        clear c30
        simp only [Option.some.injEq, Prod.mk.injEq] at H
        obtain ⟨rfl, rfl, rfl⟩ := H
        go_wp2
        go_ret
        exact ⟨_, by rfl, by exact Kd.R_mono HO_7.out (fun _ hk => trivial), by exact HI0.out, by exact HB.out, by exact HK.out⟩
    ·rw [if_neg c22] at H
     have c22b0 : (a1 == 4) = false := beq_eq_false_iff_ne.mpr c22
     have c22b1 : (a1 != 4) = true := bne_iff_ne.mpr c22
     by_cases c35 : a1 = 5
     ·rw [if_pos c35] at H
      have c35b0 : (a1 == 5) = true := beq_iff_eq.mpr c35
      have c35b1 : (a1 != 5) = false := bne_eq_false_iff_eq.mpr c35
      clear c35
      have H' := Ak H
      clear H
      go_enter Try.func64, Try.ntmps64
      go_wp2
      go_loopg [7, 12] k (fun kq v7 v12 w' => ∃ (x7_1 : List Int) (x12_1 : Int) (x1000_1 : List Int) (x1001_1 : Bool), v12 = .int .i64 x12_1 ∧ Aside0 (q_reader_values.l2 kq a2 x7_1 x12_1 x1000_1 x1001_1 = some (r1, r2, r3)) ∧ Aside0 (kq ≤ k) ∧ Aside0 (Kd.R (Kd.int .i64) 3 w' w.heap.size (fun _ => True) v7 x7_1) ∧ Aside0 (IsS75 w0 w' g x1000_1 x1001_1) ∧ Aside0 (KeepBut w w' g none) ∧ Aside0 (Below w0.heap.size w0 w'))
      case atStart => exact ⟨(([] : List Int)), (0), (s0_0), (s0_1), (by rfl), H', ⟨Nat.le_refl _⟩, ⟨by exact Kd.R_nil _ _ _ _ _⟩, ⟨by exact HI0.out⟩, ⟨by exact HK.out⟩, ⟨by exact HB.out⟩⟩
      case round =>
       clear H'
       try clear c4
       try clear c4b0
       try clear c4b1
       try clear c16
       try clear c16b0
       try clear c16b1
       try clear c19
       try clear c19b0
       try clear c19b1
       try clear c22
       try clear c22b0
       try clear c22b1
       try clear c35b0
       try clear c35b1
       obtain ⟨x7_1, x12_1, x1000_1, x1001_1, rfl, HA, HK1, HO_7, HI0, HK, HB⟩ := hrel
       cases gk with
       | zero => exact absurd HA.out (by simp [q_reader_values.l2])
       | succ k1 =>
        have H := HA.out
        clear HA
        simp only [q_reader_values.l2] at H
        by_cases c36 : (x7_1.length : Int) < a2
        ·rw [if_pos c36] at H
         have c36b0 : decide ((x7_1.length : Int) < a2) = true := decide_eq_true c36
         clear c36
         by_cases c37 : x1001_1 = true
         ·subst c37
          replace H : (some (x7_1, x1000_1, true)) = some (r1, r2, r3) := by rw [if_pos rfl] at H; exact H
          simp only [Option.some.injEq, Prod.mk.injEq] at H
          obtain ⟨rfl, rfl, rfl⟩ := H
          obtain ⟨Ao38, co38, eo38⟩ := Kd.R_slice HO_7.out
          subst eo38
          obtain ⟨ASz39_0, cSz39_0, HGz39, hgz39, HSz39_0⟩ := HI0.out
          have hcz39_0 := cellS75_0 HGz39
          have hcz39_1 := cellS75_1 HGz39
          have hfz39_0 := blk_frozen HGz39 0
          have hfz39_1 := blk_frozen HGz39 1
          have HCSz39_0 := HSz39_0.1
          replace HSz39_0 := HSz39_0.2
          clear HGz39 hgz39
          go_wp2
          go_ret
          exact ⟨_, by rfl, by exact HO_7.out, by exact HI0.out, by exact HB.out, by exact HK.out⟩
         ·replace c37 := Bool.eq_false_iff.mpr c37
          subst c37
          replace H : ((q_reader_number.f k1 x1000_1 false).bind fun bt651 => (if x7_1.length < 17592186044416 then (q_reader_values.l2 k1 a2 (x7_1 ++ [wrap64 (x12_1 + bt651.1)]) (wrap64 (x12_1 + bt651.1)) bt651.2.1 bt651.2.2) else (none))) = some (r1, r2, r3) := by rw [if_neg (show ¬ (false = true) by decide)] at H; exact H
          replace H := Option.bind_eq_some_iff.mp H
          obtain ⟨⟨t651, t652, t653⟩, A400, H⟩ := H
          replace H : (if x7_1.length < 17592186044416 then (q_reader_values.l2 k1 a2 (x7_1 ++ [wrap64 (x12_1 + t651)]) (wrap64 (x12_1 + t651)) t652 t653) else (none)) = some (r1, r2, r3) := H
          have A40 := Ak A400
          clear A400
          by_cases c41 : x7_1.length < 17592186044416
          ·rw [if_pos c41] at H
           have LMc41 := Ak c41
           clear c41
           obtain ⟨y654, hy654⟩ : ∃ y_ : List Int, y_ = (x7_1 ++ [wrap64 (x12_1 + t651)]) := ⟨_, rfl⟩
           replace H : (q_reader_values.l2 k1 a2 y654 (wrap64 (x12_1 + t651)) t652 t653) = some (r1, r2, r3) := by (rw [hy654]; with_reducible exact H)
           have Ny654 := Ak hy654
           clear hy654
           have H' := Ak H
           clear H
           obtain ⟨Ao42, co42, eo42⟩ := Kd.R_slice HO_7.out
           subst eo42
           obtain ⟨ASz43_0, cSz43_0, HGz43, hgz43, HSz43_0⟩ := HI0.out
           have hcz43_0 := cellS75_0 HGz43
           have hcz43_1 := cellS75_1 HGz43
           have hfz43_0 := blk_frozen HGz43 0
           have hfz43_1 := blk_frozen HGz43 1
           have HCSz43_0 := HSz43_0.1
           replace HSz43_0 := HSz43_0.2
           clear HGz43 hgz43
           go_wp2_with (first | ((with_reducible refine gate_callee (f := 86) rfl ?_); refine goesL_ (some 82) rfl rfl Try.func86 (by kernel_rfl) rfl #[.pointer (some ⟨g, 0, none⟩)] rfl (by (try simp only [lm]); rfl) ?_; (with_reducible refine (q_reader_number.calls k1 g x1000_1 false t651 t652 t653 w0 _ ?side1 ?side2 A40.out).mono ?_); (case side1 => exact HI0.out); (case side2 => exact HB.out); rintro e w44 ⟨rfl, hi, hb, hk⟩; refine ⟨_, rfl, ?_⟩; have n0_ := Ak (Kd.R_mono (Kd.R_keep (IsS75.apart (show IsS75 w0 _ g x1000_1 false from by exact HI0.out) (by exact HO_7.out) (by decide)) hk (fun _ h => h.2)) (fun _ h => h.1)); have n1_ := Ak (KeepBut.trans (by exact HK.out) hk (.inl rfl)); have n2_ := Ak (hb); have n3_ := Ak (hi); clear HO_7 HK HB HI0; have HO_7 := n0_; have HK := n1_; have HB := n2_; have HI0 := n3_; clear n0_ n1_ n2_ n3_; (try clear hb); (try clear hk); (try clear hi)) | ((with_reducible refine gate_builtin (b := .append) (xs := #[.tmp 84, .tmp 86]) rfl ?_); at_builtin; refine Kd.R_append (Kd.int .i64) w.heap.size rfl (.tmp 84) (.tmp 86) 22 3 (.int .i64 0) 8 rfl Try.underlying22 info3 rfl (by decide) (by omega) (.slice Ao42 x7_1.length co42) x7_1 (wrap64 (x12_1 + t651)) [.int .i64 (wrap64 (x12_1 + t651))] (fun _ => True) (fun _ => False) rfl rfl ?aP (fun _ hk => hk.elim) ?aF ?aO (Below.refl _ _) ?aS ?aL ?_; (case aP => exact rfl); (case aF => exact (fun _ _ => trivial)); (case aO => exact (by exact HO_7.out)); (case aS => exact (keep_size (w := w) (g := g) (row := none) (by exact HK.out))); (case aL => have := LMc41.out; omega); intro v655 w45 ho hb hg hat; rw [← Ny654.out] at ho; have n0_ := Ak (IsS75.grown (by exact HI0.out) hg (IsS75.own_ne HI0.out HO_7.out (by decide))); have n1_ := Ak (below_weaken (by exact HB.out) HL.out hb); have n2_ := Ak (KeepBut.trans (by exact HK.out) (KeepBut.of_grown hg g) (Kd.R_base2 HO_7.out)); have n3_ := Ak (ho); clear HI0 HB HK HO_7; have HI0 := n0_; have HB := n1_; have HK := n2_; have HO656 := n3_; clear n0_ n1_ n2_ n3_ ho hb hg hat))
           go_roundg k1
           case measure => have := HK1.out; omega
           case rel => exact ⟨(y654), (wrap64 (x12_1 + t651)), (t652), (t653), (by rfl), H', ⟨by have := HK1.out; omega⟩, ⟨by exact HO656.out⟩, ⟨by exact HI0.out⟩, ⟨by exact HK.out⟩, ⟨by exact HB.out⟩⟩
          ·rw [if_neg c41] at H
           exact absurd H (by simp)
        ·rw [if_neg c36] at H
         have c36b0 : decide ((x7_1.length : Int) < a2) = false := decide_eq_false c36
         clear c36
         simp only [Option.some.injEq, Prod.mk.injEq] at H
         obtain ⟨rfl, rfl, rfl⟩ := H
         obtain ⟨Ao46, co46, eo46⟩ := Kd.R_slice HO_7.out
         subst eo46
         go_wp2
         go_ret
         exact ⟨_, by rfl, by exact HO_7.out, by exact HI0.out, by exact HB.out, by exact HK.out⟩
     ·rw [if_neg c35] at H
      have c35b0 : (a1 == 5) = false := beq_eq_false_iff_ne.mpr c35
      have c35b1 : (a1 != 5) = true := bne_iff_ne.mpr c35
      simp only [Option.some.injEq, Prod.mk.injEq] at H
      obtain ⟨rfl, rfl, rfl⟩ := H
      obtain ⟨ASz47_0, cSz47_0, HGz47, hgz47, HSz47_0⟩ := HI0.out
      have hcz47_0 := cellS75_0 HGz47
      have hcz47_1 := cellS75_1 HGz47
      have hfz47_0 := blk_frozen HGz47 0
      have hfz47_1 := blk_frozen HGz47 1
      have HCSz47_0 := HSz47_0.1
      replace HSz47_0 := HSz47_0.2
      clear HGz47 hgz47
      go_enter Try.func64, Try.ntmps64
      go_wp2
      go_ret
      exact ⟨_, by rfl, by exact Kd.R_nil _ _ _ _ _, by repeat ((with_reducible first | exact HI0.out | apply IsS75.set_1)), by repeat ((with_reducible first | exact HB.out | refine below_set ?_ (IsS75.ge HI0.out))), by repeat ((with_reducible first | exact HK.out | apply KeepBut.set_ ))⟩
mutual
def q_Decode.j0 : Nat → List Int → Int → Int → Bool → List Int → Bool → Option (List Int × Int)
 | 0, _, _, _, _, _, _ => none
 | k + 1, x0, x5, x6, x27, x658000, x658001 => if x27 = true then (some (([] : List Int), 3)) else (if x6 > 0 then ((q_reader_values.f k x658000 x658001 x5 x6).bind fun bt664 => (q_Decode.j1 k x0 x5 bt664.1 bt664.2.1 bt664.2.2)) else (q_Decode.j1 k x0 x5 ([] : List Int) x658000 x658001))
def q_Decode.j1 : Nat → List Int → Int → List Int → List Int → Bool → Option (List Int × Int)
 | 0, _, _, _, _, _ => none
 | k + 1, x0, x5, x7, x658000, x658001 => if x658001 = true then (some (([] : List Int), 3)) else ((q_Encode.f k x5 x7).bind fun bt669 => (if bt669.2 = 0 then ((s_Equalb.f k bt669.1 x0).bind fun t673 => (if t673 = true then (some (x7, 0)) else (some (([] : List Int), 3)))) else (some (([] : List Int), 3))))
end
def q_Decode.f (k : Nat) (l0 : List Int) : Option (List Int × Int) := if (l0.length : Int) > 500000 then (some (([] : List Int), 2)) else ((q_reader_byte.f l0 false).bind fun bt658 => ((q_reader_count.f k bt658.2.1 bt658.2.2).bind fun bt661 => (if bt661.2.2 = true then (q_Decode.j0 k l0 bt658.1 bt661.1 true bt661.2.1 bt661.2.2) else (q_Decode.j0 k l0 bt658.1 bt661.1 (decide (bt661.1 > 2000)) bt661.2.1 bt661.2.2))))
theorem q_Decode.mono_l : ∀ k, (∀ y0 y1 y2 y3 y4 y5, LeO (q_Decode.j0 k y0 y1 y2 y3 y4 y5) (q_Decode.j0 (k + 1) y0 y1 y2 y3 y4 y5)) ∧ (∀ y0 y1 y2 y3 y4, LeO (q_Decode.j1 k y0 y1 y2 y3 y4) (q_Decode.j1 (k + 1) y0 y1 y2 y3 y4))
 | 0 => ⟨fun _ _ _ _ _ _ r h => by simp [q_Decode.j0] at h, fun _ _ _ _ _ r h => by simp [q_Decode.j1] at h⟩
 | k + 1 => by
  obtain ⟨ih0, ih1⟩ := q_Decode.mono_l k
  refine ⟨?_, ?_⟩ <;> intros
  all_goals (first | unfold q_Decode.j0 | unfold q_Decode.j1)
  all_goals
   repeat' first
   | (with_reducible exact ih1 _ _ _ _ _)
   | (with_reducible exact q_Encode.mono _ _ _)
   | (with_reducible exact q_reader_values.mono _ _ _ _ _)
   | (with_reducible exact s_Equalb.mono _ _ _)
   | (with_reducible exact LeO.refl _)
   | (with_reducible refine LeO.ite ?_ ?_)
   | (with_reducible refine LeO.bind ?_ (fun _ => ?_))
theorem q_Decode.mono : ∀ a0 k, LeO (q_Decode.f k a0) (q_Decode.f (k + 1) a0) := by
 intro a0 k
 obtain ⟨ih0, ih1⟩ := q_Decode.mono_l k
 unfold q_Decode.f
 repeat' first
  | (with_reducible exact ih0 _ _ _ _ _ _)
  | (with_reducible exact q_reader_count.mono _ _ _)
  | (with_reducible exact LeO.refl _)
  | (with_reducible refine LeO.ite ?_ ?_)
  | (with_reducible refine LeO.bind ?_ (fun _ => ?_))
set_option maxHeartbeats 8000000 in
set_option maxRecDepth 100000 in
theorem q_Decode.calls (k : Nat) (A0 : Option Addr) (c0 : Nat) (l0 : List Int) (r1 : List Int) (r2 : Int) (w : World) (hr0 : Kd.C (Kd.int .u8) w A0 l0.length l0) (hc0 : l0.length ≤ c0) (h : q_Decode.f k l0 = some (r1, r2)) :
 Calls Try.prog 25 #[.slice A0 l0.length c0] w fun e w' => ∃ v0_ : Value, e = .returned (.tuple #[v0_, .int .i64 r2]) ∧ Kd.R (Kd.int .i64) 3 w' w.heap.size (fun _ => True) v0_ r1 ∧ Below w.heap.size w w' := by
 have hu75 := Try.underlying75
 have HR0 := Ak hr0
 have HC0 := Ak hc0
 clear hr0 hc0
 have HB := Ak (Below.refl w.heap.size w)
 have H : (if (l0.length : Int) > 500000 then (some (([] : List Int), 2)) else ((q_reader_byte.f l0 false).bind fun bt658 => ((q_reader_count.f k bt658.2.1 bt658.2.2).bind fun bt661 => (if bt661.2.2 = true then (q_Decode.j0 k l0 bt658.1 bt661.1 true bt661.2.1 bt661.2.2) else (q_Decode.j0 k l0 bt658.1 bt661.1 (decide (bt661.1 > 2000)) bt661.2.1 bt661.2.2))))) = some (r1, r2) := h
 clear h
 by_cases c2 : (l0.length : Int) > 500000
 ·rw [if_pos c2] at H
  have c2b0 : decide (500000 < (l0.length : Int)) = true := decide_eq_true c2
  have c2b1 : decide (500000 < l0.length) = true := decide_eq_true (by omega)
  clear c2
  simp only [Option.some.injEq, Prod.mk.injEq] at H
  obtain ⟨rfl, rfl⟩ := H
  go_enter Try.func25, Try.ntmps25
  go_wp2
  go_ret2
  exact ⟨_, by rfl, by exact Kd.R_nil _ _ _ _ _, by exact HB.out⟩
 ·rw [if_neg c2] at H
  have c2b0 : decide (500000 < (l0.length : Int)) = false := decide_eq_false c2
  have c2b1 : decide (500000 < l0.length) = false := decide_eq_false (by omega)
  clear c2
  replace H := Option.bind_eq_some_iff.mp H
  obtain ⟨⟨t658, t659, t660⟩, A30, H⟩ := H
  replace H : ((q_reader_count.f k t659 t660).bind fun bt661 => (if bt661.2.2 = true then (q_Decode.j0 k l0 t658 bt661.1 true bt661.2.1 bt661.2.2) else (q_Decode.j0 k l0 t658 bt661.1 (decide (bt661.1 > 2000)) bt661.2.1 bt661.2.2))) = some (r1, r2) := H
  have A3 := Ak A30
  clear A30
  replace H := Option.bind_eq_some_iff.mp H
  obtain ⟨⟨t661, t662, t663⟩, A40, H⟩ := H
  replace H : (if t663 = true then (q_Decode.j0 k l0 t658 t661 true t662 t663) else (q_Decode.j0 k l0 t658 t661 (decide (t661 > 2000)) t662 t663)) = some (r1, r2) := H
  have A4 := Ak A40
  clear A40
  have HC5 := Ak H
  clear H
  go_enter Try.func25, Try.ntmps25
  go_upto_region 5 with (first | ((with_reducible refine gate_dst (N := 15) rfl ?_); refine box_event ?hg (N := 15) ?hd (cs := #[.slice A0 l0.length c0, .bool false]) (t := 75) ?hr ?_; (case hd => rfl); (case hg => rfl); (case hr => (go_simp; done)); intro gb657 hg w6 hbox hb; have n0_ := Ak (below_step (by exact HB.out) hb); have n1_ := Ak ((by rw [hg]; exact (below_size (by exact HB.out)) : w.heap.size ≤ gb657)); have n2_ := Ak ((by rw [hg]; exact (below_size (by exact HB.out)) : w.heap.size ≤ gb657)); have n3_ := Ak ((show IsS75 w w6 gb657 l0 false from ⟨_, _, hbox, (by rw [hg]; exact (below_size (by exact HB.out)) : w.heap.size ≤ gb657), ⟨HC0.out, HR0.out⟩⟩)); clear HB; have HB := n0_; have GW657 := n1_; have GE657 := n2_; have HI657 := n3_; clear n0_ n1_ n2_ n3_ hb hbox hg) | ((with_reducible refine gate_callee (f := 59) rfl ?_); refine goesL_ (some 17) rfl rfl Try.func59 (by kernel_rfl) rfl #[.pointer (some ⟨gb657, 0, none⟩)] rfl (by (try simp only [lm]); rfl) ?_; (with_reducible refine (q_reader_byte.calls gb657 l0 false t658 t659 t660 w _ ?side1 ?side2 A3.out).mono ?_); (case side1 => exact HI657.out); (case side2 => exact HB.out); rintro e w7 ⟨rfl, hi, hb, hk⟩; refine ⟨_, rfl, ?_⟩; have n0_ := Ak (hb); have n1_ := Ak (hi); clear HB HI657; have HB := n0_; have HI657 := n1_; clear n0_ n1_; (try clear hb); (try clear hk); (try clear hi)) | ((with_reducible refine gate_callee (f := 60) rfl ?_); refine goesL_ (some 19) rfl rfl Try.func60 (by kernel_rfl) rfl #[.pointer (some ⟨gb657, 0, none⟩)] rfl (by (try simp only [lm]); rfl) ?_; (with_reducible refine (q_reader_count.calls k gb657 t659 t660 t661 t662 t663 w _ ?side1 ?side2 A4.out).mono ?_); (case side1 => exact HI657.out); (case side2 => exact HB.out); rintro e w8 ⟨rfl, hi, hb, hk⟩; refine ⟨_, rfl, ?_⟩; have n0_ := Ak (hb); have n1_ := Ak (hi); clear HB HI657; have HB := n0_; have HI657 := n1_; clear n0_ n1_; (try clear hb); (try clear hk); (try clear hi)))
  (try simp only [Act.put, List.setIfInBounds_toArray, List.set_cons_zero, List.set_cons_succ])
  go_cut [27] (fun v27 wc => ∃ (kq : Nat) (x27_4 : Bool), v27 = .bool x27_4 ∧ Aside0 (q_Decode.j0 kq l0 t658 t661 x27_4 t662 t663 = some (r1, r2)) ∧ Aside0 (kq ≤ k) ∧ Aside0 (IsS75 w wc gb657 t662 t663) ∧ Aside0 (Below w.heap.size w wc))
  case first =>
   have H := HC5.out
   clear HC5
   by_cases c9 : t663 = true
   ·subst c9
    replace H : (q_Decode.j0 k l0 t658 t661 true t662 true) = some (r1, r2) := by rw [if_pos rfl] at H; exact H
    have H' := Ak H
    clear H
    obtain ⟨ASz10_0, cSz10_0, HGz10, hgz10, HSz10_0⟩ := HI657.out
    have hcz10_0 := cellS75_0 HGz10
    have hcz10_1 := cellS75_1 HGz10
    have hfz10_0 := blk_frozen HGz10 0
    have hfz10_1 := blk_frozen HGz10 1
    have HCSz10_0 := HSz10_0.1
    replace HSz10_0 := HSz10_0.2
    clear HGz10 hgz10
    go_wp2
    go_meet
    case rel => exact ⟨_, (true), (by rfl), H', ⟨by omega⟩, ⟨by exact HI657.out⟩, ⟨by exact HB.out⟩⟩
   ·replace c9 := Bool.eq_false_iff.mpr c9
    subst c9
    replace H : (q_Decode.j0 k l0 t658 t661 (decide (t661 > 2000)) t662 false) = some (r1, r2) := by rw [if_neg (show ¬ (false = true) by decide)] at H; exact H
    have H' := Ak H
    clear H
    obtain ⟨ASz11_0, cSz11_0, HGz11, hgz11, HSz11_0⟩ := HI657.out
    have hcz11_0 := cellS75_0 HGz11
    have hcz11_1 := cellS75_1 HGz11
    have hfz11_0 := blk_frozen HGz11 0
    have hfz11_1 := blk_frozen HGz11 1
    have HCSz11_0 := HSz11_0.1
    replace HSz11_0 := HSz11_0.2
    clear HGz11 hgz11
    go_wp2
    go_meet
    case rel => exact ⟨_, (decide (t661 > 2000)), (by rfl), H', ⟨by omega⟩, ⟨by exact HI657.out⟩, ⟨by exact HB.out⟩⟩
  case rest =>
   clear HC5
   try clear c2b0
   try clear c2b1
   obtain ⟨kq, x27_4, rfl, HA, HJ4, HI657, HB⟩ := hcut
   cases kq with
   | zero => exact absurd HA.out (by simp [q_Decode.j0])
   | succ kj4 =>
    have H := HA.out
    clear HA
    simp only [q_Decode.j0] at H
    by_cases c12 : x27_4 = true
    ·subst c12
     replace H : (some (([] : List Int), 3)) = some (r1, r2) := by rw [if_pos rfl] at H; exact H
     simp only [Option.some.injEq, Prod.mk.injEq] at H
     obtain ⟨rfl, rfl⟩ := H
     go_wp2
     go_ret2
     exact ⟨_, by rfl, by exact Kd.R_nil _ _ _ _ _, by exact HB.out⟩
    ·replace c12 := Bool.eq_false_iff.mpr c12
     subst c12
     replace H : (if t661 > 0 then ((q_reader_values.f kj4 t662 t663 t658 t661).bind fun bt664 => (q_Decode.j1 kj4 l0 t658 bt664.1 bt664.2.1 bt664.2.2)) else (q_Decode.j1 kj4 l0 t658 ([] : List Int) t662 t663)) = some (r1, r2) := by rw [if_neg (show ¬ (false = true) by decide)] at H; exact H
     have HC13 := Ak H
     clear H
     go_upto_if 29 with (fail)
     go_cut [7] (fun v7 wc => ∃ (kq : Nat) (x7_12 : List Int) (x658000_12 : List Int) (x658001_12 : Bool), Aside0 (q_Decode.j1 kq l0 t658 x7_12 x658000_12 x658001_12 = some (r1, r2)) ∧ Aside0 (kq ≤ kj4) ∧ Aside0 (Kd.R (Kd.int .i64) 3 wc w.heap.size (fun _ => True) v7 x7_12) ∧ Aside0 (IsS75 w wc gb657 x658000_12 x658001_12) ∧ Aside0 (Below w.heap.size w wc))
     case first =>
      have H := HC13.out
      clear HC13
      by_cases c14 : t661 > 0
      ·rw [if_pos c14] at H
       have c14b0 : decide (0 < t661) = true := decide_eq_true c14
       clear c14
       (rw [c14b0])
       (try rw [c14b1])
       replace H := Option.bind_eq_some_iff.mp H
       obtain ⟨⟨t664, t667, t668⟩, A150, H⟩ := H
       replace H : (q_Decode.j1 kj4 l0 t658 t664 t667 t668) = some (r1, r2) := H
       have A15 := Ak A150
       clear A150
       have H' := Ak H
       clear H
       go_wp2_with (first | ((with_reducible refine gate_callee (f := 64) rfl ?_); refine goesL_ (some 33) rfl rfl Try.func64 (by kernel_rfl) rfl #[.pointer (some ⟨gb657, 0, none⟩), .int .i64 t658, .int .i64 t661] rfl (by (try simp only [lm]); rfl) ?_; (with_reducible refine (q_reader_values.calls kj4 gb657 t662 t663 t658 t661 t664 t667 t668 w _ ?side1 ?side2 A15.out).mono ?_); (case side1 => exact HI657.out); (case side2 => exact HB.out); rintro e w16 ⟨v665, rfl, ho0, hi, hb, hk⟩; refine ⟨_, rfl, ?_⟩; have n0_ := Ak (Kd.R_lower ho0 (below_size (by exact HB.out))); have n1_ := Ak (hb); have n2_ := Ak (hi); clear HB HI657; have HO666 := n0_; have HB := n1_; have HI657 := n2_; clear n0_ n1_ n2_; (try clear hb); (try clear hk); (try clear hi); (try clear ho0)))
       go_meet
       case rel => exact ⟨_, (t664), (t667), (t668), H', ⟨by have := HJ4.out; omega⟩, ⟨by exact HO666.out⟩, ⟨by exact HI657.out⟩, ⟨by exact HB.out⟩⟩
      ·rw [if_neg c14] at H
       have c14b0 : decide (0 < t661) = false := decide_eq_false c14
       clear c14
       (rw [c14b0])
       (try rw [c14b1])
       have H' := Ak H
       clear H
       go_wp2
       go_meet
       case rel => exact ⟨_, (([] : List Int)), (t662), (t663), H', ⟨by have := HJ4.out; omega⟩, ⟨by exact Kd.R_nil _ _ _ _ _⟩, ⟨by exact HI657.out⟩, ⟨by exact HB.out⟩⟩
     case rest =>
      clear HC13
      obtain ⟨kq, x7_12, x658000_12, x658001_12, HA, HJ12, HO_7, HI657, HB⟩ := hcut
      cases kq with
      | zero => exact absurd HA.out (by simp [q_Decode.j1])
      | succ kj12 =>
       have H := HA.out
       clear HA
       simp only [q_Decode.j1] at H
       by_cases c17 : x658001_12 = true
       ·subst c17
        replace H : (some (([] : List Int), 3)) = some (r1, r2) := by rw [if_pos rfl] at H; exact H
        simp only [Option.some.injEq, Prod.mk.injEq] at H
        obtain ⟨rfl, rfl⟩ := H
        obtain ⟨ASz18_0, cSz18_0, HGz18, hgz18, HSz18_0⟩ := HI657.out
        have hcz18_0 := cellS75_0 HGz18
        have hcz18_1 := cellS75_1 HGz18
        have hfz18_0 := blk_frozen HGz18 0
        have hfz18_1 := blk_frozen HGz18 1
        have HCSz18_0 := HSz18_0.1
        replace HSz18_0 := HSz18_0.2
        clear HGz18 hgz18
        go_wp2
        go_ret2
        exact ⟨_, by rfl, by exact Kd.R_nil _ _ _ _ _, by exact HB.out⟩
       ·replace c17 := Bool.eq_false_iff.mpr c17
        subst c17
        replace H : ((q_Encode.f kj12 t658 x7_12).bind fun bt669 => (if bt669.2 = 0 then ((s_Equalb.f kj12 bt669.1 l0).bind fun t673 => (if t673 = true then (some (x7_12, 0)) else (some (([] : List Int), 3)))) else (some (([] : List Int), 3)))) = some (r1, r2) := by rw [if_neg (show ¬ (false = true) by decide)] at H; exact H
        replace H := Option.bind_eq_some_iff.mp H
        obtain ⟨⟨t669, t670⟩, A190, H⟩ := H
        replace H : (if t670 = 0 then ((s_Equalb.f kj12 t669 l0).bind fun t673 => (if t673 = true then (some (x7_12, 0)) else (some (([] : List Int), 3)))) else (some (([] : List Int), 3))) = some (r1, r2) := H
        have A19 := Ak A190
        clear A190
        by_cases c20 : t670 = 0
        ·rw [if_pos c20] at H
         have c20b0 : (t670 == 0) = true := beq_iff_eq.mpr c20
         have c20b1 : (t670 != 0) = false := bne_eq_false_iff_eq.mpr c20
         clear c20
         replace H := Option.bind_eq_some_iff.mp H
         obtain ⟨t673, A210, H⟩ := H
         replace H : (if t673 = true then (some (x7_12, 0)) else (some (([] : List Int), 3))) = some (r1, r2) := H
         have A21 := Ak A210
         clear A210
         by_cases c22 : t673 = true
         ·subst c22
          replace H : (some (x7_12, 0)) = some (r1, r2) := by rw [if_pos rfl] at H; exact H
          simp only [Option.some.injEq, Prod.mk.injEq] at H
          obtain ⟨rfl, rfl⟩ := H
          obtain ⟨ASz23_0, cSz23_0, HGz23, hgz23, HSz23_0⟩ := HI657.out
          have hcz23_0 := cellS75_0 HGz23
          have hcz23_1 := cellS75_1 HGz23
          have hfz23_0 := blk_frozen HGz23 0
          have hfz23_1 := blk_frozen HGz23 1
          have HCSz23_0 := HSz23_0.1
          replace HSz23_0 := HSz23_0.2
          clear HGz23 hgz23
          obtain ⟨Ao24, co24, eo24⟩ := Kd.R_slice HO_7.out
          subst eo24
          go_wp2_with (first | ((with_reducible refine gate_callee (f := 23) rfl ?_); refine goesL_ (some 41) rfl rfl Try.func23 (by kernel_rfl) rfl #[.int .i64 t658, .slice Ao24 x7_12.length co24] rfl (by (try simp only [lm]); rfl) ?_; (with_reducible refine (q_Encode.calls kj12 t658 _ _ x7_12 t669 t670 _ ?side1 ?side2 A19.out).mono ?_); (case side1 => repeat (exact (Kd.R_reads' HO_7.out).2.2)); (case side2 => exact (Kd.R_reads' HO_7.out).2.1); rintro e w25 ⟨v671, rfl, ho0, hb⟩; refine ⟨_, rfl, ?_⟩; have n0_ := Ak (Kd.R_below (by exact HO_7.out) hb); have n1_ := Ak (Kd.R_lower ho0 (below_size (by exact HB.out))); have n2_ := Ak (IsS75.below (by exact HI657.out) hb); have n3_ := Ak (below_step (by exact HB.out) hb); clear HO_7 HI657 HB; have HO_7 := n0_; have HO672 := n1_; have HI657 := n2_; have HB := n3_; clear n0_ n1_ n2_ n3_; (try clear hb); (try clear ho0); obtain ⟨Ao26, co26, eo26⟩ := Kd.R_slice HO672.out; subst eo26) | (go_at_call 17; (with_reducible refine (s_Equalb.calls kj12 _ _ t669 _ _ l0 true _ ?side1 ?side2 ?side3 ?side4 A21.out).mono ?_); (case side1 => repeat (exact (Kd.R_reads' HO672.out).2.2)); (case side2 => exact (Kd.R_reads' HO672.out).2.1); (case side3 => repeat (exact (Kd.C_below HR0.out HB.out))); (case side4 => exact HC0.out); rintro e w' ⟨rfl, ⟨nd, rfl⟩⟩))
          go_ret2
          exact ⟨_, by rfl, by (with_reducible repeat (apply Kd.R_drewN)); exact HO_7.out, by repeat ((with_reducible first | exact HB.out | apply pw_below_drewN ))⟩
         ·replace c22 := Bool.eq_false_iff.mpr c22
          subst c22
          replace H : (some (([] : List Int), 3)) = some (r1, r2) := by rw [if_neg (show ¬ (false = true) by decide)] at H; exact H
          simp only [Option.some.injEq, Prod.mk.injEq] at H
          obtain ⟨rfl, rfl⟩ := H
          obtain ⟨ASz27_0, cSz27_0, HGz27, hgz27, HSz27_0⟩ := HI657.out
          have hcz27_0 := cellS75_0 HGz27
          have hcz27_1 := cellS75_1 HGz27
          have hfz27_0 := blk_frozen HGz27 0
          have hfz27_1 := blk_frozen HGz27 1
          have HCSz27_0 := HSz27_0.1
          replace HSz27_0 := HSz27_0.2
          clear HGz27 hgz27
          obtain ⟨Ao28, co28, eo28⟩ := Kd.R_slice HO_7.out
          subst eo28
          go_wp2_with (first | ((with_reducible refine gate_callee (f := 23) rfl ?_); refine goesL_ (some 41) rfl rfl Try.func23 (by kernel_rfl) rfl #[.int .i64 t658, .slice Ao28 x7_12.length co28] rfl (by (try simp only [lm]); rfl) ?_; (with_reducible refine (q_Encode.calls kj12 t658 _ _ x7_12 t669 t670 _ ?side1 ?side2 A19.out).mono ?_); (case side1 => repeat (exact (Kd.R_reads' HO_7.out).2.2)); (case side2 => exact (Kd.R_reads' HO_7.out).2.1); rintro e w29 ⟨v671, rfl, ho0, hb⟩; refine ⟨_, rfl, ?_⟩; have n0_ := Ak (Kd.R_below (by exact HO_7.out) hb); have n1_ := Ak (Kd.R_lower ho0 (below_size (by exact HB.out))); have n2_ := Ak (IsS75.below (by exact HI657.out) hb); have n3_ := Ak (below_step (by exact HB.out) hb); clear HO_7 HI657 HB; have HO_7 := n0_; have HO672 := n1_; have HI657 := n2_; have HB := n3_; clear n0_ n1_ n2_ n3_; (try clear hb); (try clear ho0); obtain ⟨Ao30, co30, eo30⟩ := Kd.R_slice HO672.out; subst eo30) | (go_at_call 17; (with_reducible refine (s_Equalb.calls kj12 _ _ t669 _ _ l0 false _ ?side1 ?side2 ?side3 ?side4 A21.out).mono ?_); (case side1 => repeat (exact (Kd.R_reads' HO672.out).2.2)); (case side2 => exact (Kd.R_reads' HO672.out).2.1); (case side3 => repeat (exact (Kd.C_below HR0.out HB.out))); (case side4 => exact HC0.out); rintro e w' ⟨rfl, ⟨nd, rfl⟩⟩))
          go_ret2
          exact ⟨_, by rfl, by exact Kd.R_nil _ _ _ _ _, by repeat ((with_reducible first | exact HB.out | apply pw_below_drewN ))⟩
        ·rw [if_neg c20] at H
         have c20b0 : (t670 == 0) = false := beq_eq_false_iff_ne.mpr c20
         have c20b1 : (t670 != 0) = true := bne_iff_ne.mpr c20
         simp only [Option.some.injEq, Prod.mk.injEq] at H
         obtain ⟨rfl, rfl⟩ := H
         obtain ⟨ASz31_0, cSz31_0, HGz31, hgz31, HSz31_0⟩ := HI657.out
         have hcz31_0 := cellS75_0 HGz31
         have hcz31_1 := cellS75_1 HGz31
         have hfz31_0 := blk_frozen HGz31 0
         have hfz31_1 := blk_frozen HGz31 1
         have HCSz31_0 := HSz31_0.1
         replace HSz31_0 := HSz31_0.2
         clear HGz31 hgz31
         obtain ⟨Ao32, co32, eo32⟩ := Kd.R_slice HO_7.out
         subst eo32
         go_wp2_with (first | ((with_reducible refine gate_callee (f := 23) rfl ?_); refine goesL_ (some 41) rfl rfl Try.func23 (by kernel_rfl) rfl #[.int .i64 t658, .slice Ao32 x7_12.length co32] rfl (by (try simp only [lm]); rfl) ?_; (with_reducible refine (q_Encode.calls kj12 t658 _ _ x7_12 t669 t670 _ ?side1 ?side2 A19.out).mono ?_); (case side1 => repeat (exact (Kd.R_reads' HO_7.out).2.2)); (case side2 => exact (Kd.R_reads' HO_7.out).2.1); rintro e w33 ⟨v671, rfl, ho0, hb⟩; refine ⟨_, rfl, ?_⟩; have n0_ := Ak (Kd.R_below (by exact HO_7.out) hb); have n1_ := Ak (Kd.R_lower ho0 (below_size (by exact HB.out))); have n2_ := Ak (IsS75.below (by exact HI657.out) hb); have n3_ := Ak (below_step (by exact HB.out) hb); clear HO_7 HI657 HB; have HO_7 := n0_; have HO672 := n1_; have HI657 := n2_; have HB := n3_; clear n0_ n1_ n2_ n3_; (try clear hb); (try clear ho0)))
         go_ret2
         exact ⟨_, by rfl, by exact Kd.R_nil _ _ _ _ _, by exact HB.out⟩
def q_At.f (k : Nat) (l0 : List Int) (a1 : Int) : Option (Int × Int) := (q_Decode.f k l0).bind fun bt674 => (if bt674.2 = 0 then (if a1 < 0 then (some (0, 1)) else (if a1 ≥ (bt674.1.length : Int) then (some (0, 1)) else (if 0 ≤ a1 then (if a1 < (bt674.1.length : Int) then (some (rd bt674.1 a1, 0)) else (none)) else (none)))) else (some (0, bt674.2)))
theorem q_At.mono : ∀ a0 a1 k, LeO (q_At.f k a0 a1) (q_At.f (k + 1) a0 a1) := by
 intro a0 a1 k
 unfold q_At.f
 repeat' first
  | (with_reducible exact q_Decode.mono _ _)
  | (with_reducible exact LeO.refl _)
  | (with_reducible refine LeO.bind ?_ (fun _ => ?_))
set_option maxHeartbeats 8000000 in
set_option maxRecDepth 100000 in
theorem q_At.calls (k : Nat) (A0 : Option Addr) (c0 : Nat) (l0 : List Int) (a1 : Int) (r1 : Int) (r2 : Int) (w : World) (hr0 : Kd.C (Kd.int .u8) w A0 l0.length l0) (hc0 : l0.length ≤ c0) (h : q_At.f k l0 a1 = some (r1, r2)) :
 Calls Try.prog 40 #[.slice A0 l0.length c0, .int .i64 a1] w fun e w' => e = .returned (.tuple #[.int .i64 r1, .int .i64 r2]) ∧ Below w.heap.size w w' := by
 have HR0 := Ak hr0
 have HC0 := Ak hc0
 clear hr0 hc0
 have HB := Ak (Below.refl w.heap.size w)
 have H : ((q_Decode.f k l0).bind fun bt674 => (if bt674.2 = 0 then (if a1 < 0 then (some (0, 1)) else (if a1 ≥ (bt674.1.length : Int) then (some (0, 1)) else (if 0 ≤ a1 then (if a1 < (bt674.1.length : Int) then (some (rd bt674.1 a1, 0)) else (none)) else (none)))) else (some (0, bt674.2)))) = some (r1, r2) := h
 clear h
 replace H := Option.bind_eq_some_iff.mp H
 obtain ⟨⟨t674, t675⟩, A30, H⟩ := H
 replace H : (if t675 = 0 then (if a1 < 0 then (some (0, 1)) else (if a1 ≥ (t674.length : Int) then (some (0, 1)) else (if 0 ≤ a1 then (if a1 < (t674.length : Int) then (some (rd t674 a1, 0)) else (none)) else (none)))) else (some (0, t675))) = some (r1, r2) := H
 have A3 := Ak A30
 clear A30
 by_cases c4 : t675 = 0
 ·rw [if_pos c4] at H
  have c4b0 : (t675 == 0) = true := beq_iff_eq.mpr c4
  have c4b1 : (t675 != 0) = false := bne_eq_false_iff_eq.mpr c4
  clear c4
  by_cases c5 : a1 < 0
  ·rw [if_pos c5] at H
   have c5b0 : decide (a1 < 0) = true := decide_eq_true c5
   clear c5
   simp only [Option.some.injEq, Prod.mk.injEq] at H
   obtain ⟨rfl, rfl⟩ := H
   go_enter Try.func40, Try.ntmps40
   go_wp2_with (first | ((with_reducible refine gate_callee (f := 25) rfl ?_); refine goesL_ (some 10) rfl rfl Try.func25 (by kernel_rfl) rfl #[.slice A0 l0.length c0] rfl (by (try simp only [lm]); rfl) ?_; (with_reducible refine (q_Decode.calls k _ _ l0 t674 t675 _ ?side1 ?side2 A3.out).mono ?_); (case side1 => repeat (exact HR0.out)); (case side2 => exact HC0.out); rintro e w6 ⟨v676, rfl, ho0, hb⟩; refine ⟨_, rfl, ?_⟩; have n0_ := Ak (Kd.R_lower ho0 (below_size (by exact HB.out))); have n1_ := Ak (below_step (by exact HB.out) hb); clear HB; have HO677 := n0_; have HB := n1_; clear n0_ n1_; (try clear hb); (try clear ho0)))
   go_ret2
   exact ⟨by rfl, by exact HB.out⟩
  ·rw [if_neg c5] at H
   have c5b0 : decide (a1 < 0) = false := decide_eq_false c5
   clear c5
   by_cases c7 : a1 ≥ (t674.length : Int)
   ·rw [if_pos c7] at H
    have c7b0 : decide ((t674.length : Int) ≤ a1) = true := decide_eq_true c7
    clear c7
    simp only [Option.some.injEq, Prod.mk.injEq] at H
    obtain ⟨rfl, rfl⟩ := H
    go_enter Try.func40, Try.ntmps40
    go_wp2_with (first | ((with_reducible refine gate_callee (f := 25) rfl ?_); refine goesL_ (some 10) rfl rfl Try.func25 (by kernel_rfl) rfl #[.slice A0 l0.length c0] rfl (by (try simp only [lm]); rfl) ?_; (with_reducible refine (q_Decode.calls k _ _ l0 t674 t675 _ ?side1 ?side2 A3.out).mono ?_); (case side1 => repeat (exact HR0.out)); (case side2 => exact HC0.out); rintro e w8 ⟨v676, rfl, ho0, hb⟩; refine ⟨_, rfl, ?_⟩; have n0_ := Ak (Kd.R_lower ho0 (below_size (by exact HB.out))); have n1_ := Ak (below_step (by exact HB.out) hb); clear HB; have HO677 := n0_; have HB := n1_; clear n0_ n1_; (try clear hb); (try clear ho0); obtain ⟨Ao9, co9, eo9⟩ := Kd.R_slice HO677.out; subst eo9))
    go_ret2
    exact ⟨by rfl, by exact HB.out⟩
   ·rw [if_neg c7] at H
    have c7b0 : decide ((t674.length : Int) ≤ a1) = false := decide_eq_false c7
    clear c7
    by_cases c10 : 0 ≤ a1
    ·rw [if_pos c10] at H
     have c10b0 : decide (0 ≤ a1) = true := decide_eq_true c10
     clear c10
     by_cases c11 : a1 < (t674.length : Int)
     ·rw [if_pos c11] at H
      have c11b0 : decide (a1 < (t674.length : Int)) = true := decide_eq_true c11
      clear c11
      simp only [Option.some.injEq, Prod.mk.injEq] at H
      obtain ⟨rfl, rfl⟩ := H
      go_enter Try.func40, Try.ntmps40
      go_wp2_with (first | ((with_reducible refine gate_callee (f := 25) rfl ?_); refine goesL_ (some 10) rfl rfl Try.func25 (by kernel_rfl) rfl #[.slice A0 l0.length c0] rfl (by (try simp only [lm]); rfl) ?_; (with_reducible refine (q_Decode.calls k _ _ l0 t674 t675 _ ?side1 ?side2 A3.out).mono ?_); (case side1 => repeat (exact HR0.out)); (case side2 => exact HC0.out); rintro e w12 ⟨v676, rfl, ho0, hb⟩; refine ⟨_, rfl, ?_⟩; have n0_ := Ak (Kd.R_lower ho0 (below_size (by exact HB.out))); have n1_ := Ak (below_step (by exact HB.out) hb); clear HB; have HO677 := n0_; have HB := n1_; clear n0_ n1_; (try clear hb); (try clear ho0); obtain ⟨Ao13, co13, eo13⟩ := Kd.R_slice HO677.out; subst eo13; have p678 : 0 ≤ (a1 : Int) := of_decide_eq_true (by (with_reducible assumption)); have q678 : a1 < (t674.length : Int) := of_decide_eq_true (by (with_reducible assumption)); obtain ⟨ad678, e678, hx678_0⟩ := Kd.at_int (Kd.R_reads' HO677.out).2.2 a1 p678 q678; cases e678; replace p678 := eq_true p678; replace q678 := eq_true q678))
      go_ret2
      exact ⟨by rfl, by exact HB.out⟩
     ·rw [if_neg c11] at H
      exact absurd H (by simp)
    ·rw [if_neg c10] at H
     exact absurd H (by simp)
 ·rw [if_neg c4] at H
  have c4b0 : (t675 == 0) = false := beq_eq_false_iff_ne.mpr c4
  have c4b1 : (t675 != 0) = true := bne_iff_ne.mpr c4
  simp only [Option.some.injEq, Prod.mk.injEq] at H
  obtain ⟨rfl, rfl⟩ := H
  go_enter Try.func40, Try.ntmps40
  go_wp2_with (first | ((with_reducible refine gate_callee (f := 25) rfl ?_); refine goesL_ (some 10) rfl rfl Try.func25 (by kernel_rfl) rfl #[.slice A0 l0.length c0] rfl (by (try simp only [lm]); rfl) ?_; (with_reducible refine (q_Decode.calls k _ _ l0 t674 t675 _ ?side1 ?side2 A3.out).mono ?_); (case side1 => repeat (exact HR0.out)); (case side2 => exact HC0.out); rintro e w14 ⟨v676, rfl, ho0, hb⟩; refine ⟨_, rfl, ?_⟩; have n0_ := Ak (Kd.R_lower ho0 (below_size (by exact HB.out))); have n1_ := Ak (below_step (by exact HB.out) hb); clear HB; have HO677 := n0_; have HB := n1_; clear n0_ n1_; (try clear hb); (try clear ho0)))
  go_ret2
  exact ⟨by rfl, by exact HB.out⟩
def q_Where.l0 : Nat → Int → Int → List Int → List Int → Int → Int → Option (List Int × Int)
 | 0, _, _, _, _, _, _ => none
 | k + 1, x1, x2, x8, x10, x25, x26 => if x26 < x25 then (if 0 ≤ x26 then (if x26 < (x8.length : Int) then (if (rd x8 x26) ≥ x1 then (if (rd x8 x26) ≤ x2 then (if x10.length < 17592186044416 then (q_Where.l0 k x1 x2 x8 (x10 ++ [x26]) x25 (wrap64 (x26 + 1))) else (none)) else (q_Where.l0 k x1 x2 x8 x10 x25 (wrap64 (x26 + 1)))) else (q_Where.l0 k x1 x2 x8 x10 x25 (wrap64 (x26 + 1)))) else (none)) else (none)) else (some (x10, 0))
def q_Where.f (k : Nat) (l0 : List Int) (a1 : Int) (a2 : Int) : Option (List Int × Int) := (q_Decode.f k l0).bind fun bt679 => (if bt679.2 = 0 then (if a1 > a2 then (some (([] : List Int), 8)) else (q_Where.l0 k a1 a2 bt679.1 ([] : List Int) (bt679.1.length : Int) 0)) else (some (([] : List Int), bt679.2)))
theorem q_Where.mono_l : ∀ k, (∀ y0 y1 y2 y3 y4 y5, LeO (q_Where.l0 k y0 y1 y2 y3 y4 y5) (q_Where.l0 (k + 1) y0 y1 y2 y3 y4 y5))
 | 0 => fun _ _ _ _ _ _ r h => by simp [q_Where.l0] at h
 | k + 1 => by
  have ih0 := q_Where.mono_l k
  ·intro y0 y1 y2 y3 y4 y5
   unfold q_Where.l0
   repeat' first
   | (with_reducible exact ih0 _ _ _ _ _ _)
   | (with_reducible exact LeO.refl _)
   | (with_reducible refine LeO.ite ?_ ?_)
theorem q_Where.mono : ∀ a0 a1 a2 k, LeO (q_Where.f k a0 a1 a2) (q_Where.f (k + 1) a0 a1 a2) := by
 intro a0 a1 a2 k
 have ih0 := q_Where.mono_l k
 unfold q_Where.f
 repeat' first
  | (with_reducible exact ih0 _ _ _ _ _ _)
  | (with_reducible exact q_Decode.mono _ _)
  | (with_reducible exact LeO.refl _)
  | (with_reducible refine LeO.ite ?_ ?_)
  | (with_reducible refine LeO.bind ?_ (fun _ => ?_))
set_option maxHeartbeats 8000000 in
set_option maxRecDepth 100000 in
theorem q_Where.calls (k : Nat) (A0 : Option Addr) (c0 : Nat) (l0 : List Int) (a1 : Int) (a2 : Int) (r1 : List Int) (r2 : Int) (w : World) (hr0 : Kd.C (Kd.int .u8) w A0 l0.length l0) (hc0 : l0.length ≤ c0) (h : q_Where.f k l0 a1 a2 = some (r1, r2)) :
 Calls Try.prog 41 #[.slice A0 l0.length c0, .int .i64 a1, .int .i64 a2] w fun e w' => ∃ v0_ : Value, e = .returned (.tuple #[v0_, .int .i64 r2]) ∧ Kd.R (Kd.int .i64) 3 w' w.heap.size (fun _ => True) v0_ r1 ∧ Below w.heap.size w w' := by
 have HR0 := Ak hr0
 have HC0 := Ak hc0
 clear hr0 hc0
 have HB := Ak (Below.refl w.heap.size w)
 have H : ((q_Decode.f k l0).bind fun bt679 => (if bt679.2 = 0 then (if a1 > a2 then (some (([] : List Int), 8)) else (q_Where.l0 k a1 a2 bt679.1 ([] : List Int) (bt679.1.length : Int) 0)) else (some (([] : List Int), bt679.2)))) = some (r1, r2) := h
 clear h
 replace H := Option.bind_eq_some_iff.mp H
 obtain ⟨⟨t679, t680⟩, A40, H⟩ := H
 replace H : (if t680 = 0 then (if a1 > a2 then (some (([] : List Int), 8)) else (q_Where.l0 k a1 a2 t679 ([] : List Int) (t679.length : Int) 0)) else (some (([] : List Int), t680))) = some (r1, r2) := H
 have A4 := Ak A40
 clear A40
 by_cases c5 : t680 = 0
 ·rw [if_pos c5] at H
  have c5b0 : (t680 == 0) = true := beq_iff_eq.mpr c5
  have c5b1 : (t680 != 0) = false := bne_eq_false_iff_eq.mpr c5
  clear c5
  by_cases c6 : a1 > a2
  ·rw [if_pos c6] at H
   have c6b0 : decide (a2 < a1) = true := decide_eq_true c6
   clear c6
   simp only [Option.some.injEq, Prod.mk.injEq] at H
   obtain ⟨rfl, rfl⟩ := H
   go_enter Try.func41, Try.ntmps41
   go_wp2_with (first | ((with_reducible refine gate_callee (f := 25) rfl ?_); refine goesL_ (some 15) rfl rfl Try.func25 (by kernel_rfl) rfl #[.slice A0 l0.length c0] rfl (by (try simp only [lm]); rfl) ?_; (with_reducible refine (q_Decode.calls k _ _ l0 t679 t680 _ ?side1 ?side2 A4.out).mono ?_); (case side1 => repeat (exact HR0.out)); (case side2 => exact HC0.out); rintro e w7 ⟨v681, rfl, ho0, hb⟩; refine ⟨_, rfl, ?_⟩; have n0_ := Ak (Kd.R_lower ho0 (below_size (by exact HB.out))); have n1_ := Ak (below_step (by exact HB.out) hb); clear HB; have HO682 := n0_; have HB := n1_; clear n0_ n1_; (try clear hb); (try clear ho0)))
   go_ret2
   exact ⟨_, by rfl, by exact Kd.R_nil _ _ _ _ _, by exact HB.out⟩
  ·rw [if_neg c6] at H
   have c6b0 : decide (a2 < a1) = false := decide_eq_false c6
   clear c6
   have H' := Ak H
   clear H
   go_enter Try.func41, Try.ntmps41
   go_wp2_with (first | ((with_reducible refine gate_callee (f := 25) rfl ?_); refine goesL_ (some 15) rfl rfl Try.func25 (by kernel_rfl) rfl #[.slice A0 l0.length c0] rfl (by (try simp only [lm]); rfl) ?_; (with_reducible refine (q_Decode.calls k _ _ l0 t679 t680 _ ?side1 ?side2 A4.out).mono ?_); (case side1 => repeat (exact HR0.out)); (case side2 => exact HC0.out); rintro e w8 ⟨v681, rfl, ho0, hb⟩; refine ⟨_, rfl, ?_⟩; have n0_ := Ak (Kd.R_lower ho0 (below_size (by exact HB.out))); have n1_ := Ak (below_step (by exact HB.out) hb); clear HB; have HO682 := n0_; have HB := n1_; clear n0_ n1_; (try clear hb); (try clear ho0); obtain ⟨Ao9, co9, eo9⟩ := Kd.R_slice HO682.out; subst eo9))
   go_loopg [10, 26] k (fun kq v10 v26 w' => ∃ (x10_1 : List Int) (x26_1 : Int), v26 = .int .i64 x26_1 ∧ Aside0 (q_Where.l0 kq a1 a2 t679 x10_1 (t679.length : Int) x26_1 = some (r1, r2)) ∧ Aside0 (kq ≤ k) ∧ Aside0 (Kd.R (Kd.int .i64) 3 w' w.heap.size (fun k_ => some k_ ≠ (v10 : Value).ownBlock) (.slice Ao9 t679.length co9) t679) ∧ Aside0 (Kd.R (Kd.int .i64) 3 w' w.heap.size (fun k_ => some k_ ≠ ((.slice Ao9 t679.length co9) : Value).ownBlock) v10 x10_1) ∧ Aside0 (Below w.heap.size w w'))
   case atStart => exact ⟨(([] : List Int)), (0), (by rfl), H', ⟨Nat.le_refl _⟩, ⟨by exact Kd.R_mono HO682.out (fun _ hk => (by simp [Value.ownBlock]))⟩, ⟨by exact Kd.R_nil _ _ _ _ _⟩, ⟨by exact HB.out⟩⟩
   case round =>
    clear H'
    try clear c5b0
    try clear c5b1
    try clear c6b0
    obtain ⟨x10_1, x26_1, rfl, HA, HK1, HO_8, HO_10, HB⟩ := hrel
    cases gk with
    | zero => exact absurd HA.out (by simp [q_Where.l0])
    | succ k1 =>
     have H := HA.out
     clear HA
     simp only [q_Where.l0] at H
     by_cases c10 : x26_1 < (t679.length : Int)
     ·rw [if_pos c10] at H
      have c10b0 : decide (x26_1 < (t679.length : Int)) = true := decide_eq_true c10
      clear c10
      by_cases c11 : 0 ≤ x26_1
      ·rw [if_pos c11] at H
       have c11b0 : decide (0 ≤ x26_1) = true := decide_eq_true c11
       clear c11
       by_cases c12 : x26_1 < (t679.length : Int)
       ·rw [if_pos c12] at H
        have c12b0 : decide (x26_1 < (t679.length : Int)) = true := decide_eq_true c12
        clear c12
        by_cases c13 : (rd t679 x26_1) ≥ a1
        ·rw [if_pos c13] at H
         have c13b0 : decide (a1 ≤ (rd t679 x26_1)) = true := decide_eq_true c13
         clear c13
         by_cases c14 : (rd t679 x26_1) ≤ a2
         ·rw [if_pos c14] at H
          have c14b0 : decide ((rd t679 x26_1) ≤ a2) = true := decide_eq_true c14
          clear c14
          by_cases c15 : x10_1.length < 17592186044416
          ·rw [if_pos c15] at H
           have LMc15 := Ak c15
           clear c15
           obtain ⟨y684, hy684⟩ : ∃ y_ : List Int, y_ = (x10_1 ++ [x26_1]) := ⟨_, rfl⟩
           replace H : (q_Where.l0 k1 a1 a2 t679 y684 (t679.length : Int) (wrap64 (x26_1 + 1))) = some (r1, r2) := by (rw [hy684]; with_reducible exact H)
           have Ny684 := Ak hy684
           clear hy684
           have H' := Ak H
           clear H
           have p683 : 0 ≤ (x26_1 : Int) := of_decide_eq_true (by (with_reducible assumption))
           have q683 : x26_1 < (t679.length : Int) := of_decide_eq_true (by (with_reducible assumption))
           obtain ⟨ad683, e683, hx683_0⟩ := Kd.at_int (Kd.R_reads' HO_8.out).2.2 x26_1 p683 q683
           cases e683
           replace p683 := eq_true p683
           replace q683 := eq_true q683
           go_wp2_with (first | ((with_reducible refine gate_builtin (b := .append) (xs := #[.tmp 39, .tmp 41]) rfl ?_); at_builtin; refine Kd.R_append (Kd.int .i64) (w0 := w) w.heap.size rfl (.tmp 39) (.tmp 41) 22 3 (.int .i64 0) 8 rfl Try.underlying22 info3 rfl (by decide) (by omega) u10 x10_1 x26_1 [.int .i64 x26_1] (fun k_ => some k_ ≠ (.slice (some ad683) t679.length co9 : Value).ownBlock) (fun _ => False) rfl rfl ?aP (fun _ hk => hk.elim) ?aF ?aO ?aB ?aS ?aL ?_; (case aP => exact rfl); (case aB => exact (by exact HB.out)); (case aF => exact (fun k_ hk => Kd.fresh' (Kd.R_lt (by exact HO_8.out)) k_ hk)); (case aO => exact (by exact HO_10.out)); (case aS => exact (below_size (by exact HB.out))); (case aL => have := LMc15.out; omega); intro v685 w16 ho hb hg hat; rw [← Ny684.out] at ho; have n0_ := Ak (Kd.R_after (ok := (fun _ => True)) (by exact Kd.R_mono HO_8.out (fun _ hk => ⟨trivial, hk⟩)) hg hat); have n1_ := Ak (hb); have n2_ := Ak (ho); clear HO_8 HB HO_10; have HO_8 := n0_; have HB := n1_; have HO686 := n2_; clear n0_ n1_ n2_ ho hb hg hat))
           go_roundg k1
           case measure => have := HK1.out; omega
           case rel => exact ⟨(y684), (wrap64 (x26_1 + 1)), (by rfl), H', ⟨by have := HK1.out; omega⟩, ⟨by exact Kd.R_mono HO_8.out (fun _ hk => hk.2)⟩, ⟨by exact HO686.out⟩, ⟨by exact HB.out⟩⟩
          ·rw [if_neg c15] at H
           exact absurd H (by simp)
         ·rw [if_neg c14] at H
          have c14b0 : decide ((rd t679 x26_1) ≤ a2) = false := decide_eq_false c14
          clear c14
          have H' := Ak H
          clear H
          have p683 : 0 ≤ (x26_1 : Int) := of_decide_eq_true (by (with_reducible assumption))
          have q683 : x26_1 < (t679.length : Int) := of_decide_eq_true (by (with_reducible assumption))
          obtain ⟨ad683, e683, hx683_0⟩ := Kd.at_int (Kd.R_reads' HO_8.out).2.2 x26_1 p683 q683
          cases e683
          replace p683 := eq_true p683
          replace q683 := eq_true q683
          go_wp2
          go_roundg k1
          case measure => have := HK1.out; omega
          case rel => exact ⟨(x10_1), (wrap64 (x26_1 + 1)), (by rfl), H', ⟨by have := HK1.out; omega⟩, ⟨by exact HO_8.out⟩, ⟨by exact HO_10.out⟩, ⟨by exact HB.out⟩⟩
        ·rw [if_neg c13] at H
         have c13b0 : decide (a1 ≤ (rd t679 x26_1)) = false := decide_eq_false c13
         clear c13
         have H' := Ak H
         clear H
         have p683 : 0 ≤ (x26_1 : Int) := of_decide_eq_true (by (with_reducible assumption))
         have q683 : x26_1 < (t679.length : Int) := of_decide_eq_true (by (with_reducible assumption))
         obtain ⟨ad683, e683, hx683_0⟩ := Kd.at_int (Kd.R_reads' HO_8.out).2.2 x26_1 p683 q683
         cases e683
         replace p683 := eq_true p683
         replace q683 := eq_true q683
         go_wp2
         go_roundg k1
         case measure => have := HK1.out; omega
         case rel => exact ⟨(x10_1), (wrap64 (x26_1 + 1)), (by rfl), H', ⟨by have := HK1.out; omega⟩, ⟨by exact HO_8.out⟩, ⟨by exact HO_10.out⟩, ⟨by exact HB.out⟩⟩
       ·rw [if_neg c12] at H
        exact absurd H (by simp)
      ·rw [if_neg c11] at H
       exact absurd H (by simp)
     ·rw [if_neg c10] at H
      have c10b0 : decide (x26_1 < (t679.length : Int)) = false := decide_eq_false c10
      clear c10
      simp only [Option.some.injEq, Prod.mk.injEq] at H
      obtain ⟨rfl, rfl⟩ := H
      go_wp2
      go_ret2
      exact ⟨_, by rfl, by exact Kd.R_mono HO_10.out (fun _ hk => trivial), by exact HB.out⟩
 ·rw [if_neg c5] at H
  have c5b0 : (t680 == 0) = false := beq_eq_false_iff_ne.mpr c5
  have c5b1 : (t680 != 0) = true := bne_iff_ne.mpr c5
  simp only [Option.some.injEq, Prod.mk.injEq] at H
  obtain ⟨rfl, rfl⟩ := H
  go_enter Try.func41, Try.ntmps41
  go_wp2_with (first | ((with_reducible refine gate_callee (f := 25) rfl ?_); refine goesL_ (some 15) rfl rfl Try.func25 (by kernel_rfl) rfl #[.slice A0 l0.length c0] rfl (by (try simp only [lm]); rfl) ?_; (with_reducible refine (q_Decode.calls k _ _ l0 t679 t680 _ ?side1 ?side2 A4.out).mono ?_); (case side1 => repeat (exact HR0.out)); (case side2 => exact HC0.out); rintro e w17 ⟨v681, rfl, ho0, hb⟩; refine ⟨_, rfl, ?_⟩; have n0_ := Ak (Kd.R_lower ho0 (below_size (by exact HB.out))); have n1_ := Ak (below_step (by exact HB.out) hb); clear HB; have HO682 := n0_; have HB := n1_; clear n0_ n1_; (try clear hb); (try clear ho0)))
  go_ret2
  exact ⟨_, by rfl, by exact Kd.R_nil _ _ _ _ _, by exact HB.out⟩
def q_Least.j0 : Nat → List Int → Int → Bool → Option (Int × Int × Bool × Int)
 | 0, _, _, _ => none
 | k + 1, x6, x7, x19 => if x19 = true then (some (0, 0, false, x7)) else ((s_Min.f x6).bind fun t691 => ((s_Max.f x6).bind fun t692 => (some (t691, t692, true, 0))))
def q_Least.f (k : Nat) (l0 : List Int) : Option (Int × Int × Bool × Int) := (q_Decode.f k l0).bind fun bt687 => (if bt687.2 = 0 then (q_Least.j0 k bt687.1 bt687.2 ((bt687.1.length : Int) == 0)) else (q_Least.j0 k bt687.1 bt687.2 true))
theorem q_Least.mono_l : ∀ k, (∀ y0 y1 y2, LeO (q_Least.j0 k y0 y1 y2) (q_Least.j0 (k + 1) y0 y1 y2))
 | 0 => fun _ _ _ r h => by simp [q_Least.j0] at h
 | k + 1 => by
  have ih0 := q_Least.mono_l k
  ·intro y0 y1 y2
   unfold q_Least.j0
   repeat' first
   | (with_reducible exact LeO.refl _)
theorem q_Least.mono : ∀ a0 k, LeO (q_Least.f k a0) (q_Least.f (k + 1) a0) := by
 intro a0 k
 have ih0 := q_Least.mono_l k
 unfold q_Least.f
 repeat' first
  | (with_reducible exact ih0 _ _ _)
  | (with_reducible exact q_Decode.mono _ _)
  | (with_reducible refine LeO.ite ?_ ?_)
  | (with_reducible refine LeO.bind ?_ (fun _ => ?_))
set_option maxHeartbeats 8000000 in
set_option maxRecDepth 100000 in
theorem q_Least.calls (k : Nat) (A0 : Option Addr) (c0 : Nat) (l0 : List Int) (r1 : Int) (r2 : Int) (r3 : Bool) (r4 : Int) (w : World) (hr0 : Kd.C (Kd.int .u8) w A0 l0.length l0) (hc0 : l0.length ≤ c0) (h : q_Least.f k l0 = some (r1, r2, r3, r4)) :
 Calls Try.prog 42 #[.slice A0 l0.length c0] w fun e w' => e = .returned (.tuple #[.int .i64 r1, .int .i64 r2, .bool r3, .int .i64 r4]) ∧ Below w.heap.size w w' := by
 have HR0 := Ak hr0
 have HC0 := Ak hc0
 clear hr0 hc0
 have HB := Ak (Below.refl w.heap.size w)
 have H : ((q_Decode.f k l0).bind fun bt687 => (if bt687.2 = 0 then (q_Least.j0 k bt687.1 bt687.2 ((bt687.1.length : Int) == 0)) else (q_Least.j0 k bt687.1 bt687.2 true))) = some (r1, r2, r3, r4) := h
 clear h
 replace H := Option.bind_eq_some_iff.mp H
 obtain ⟨⟨t687, t688⟩, A20, H⟩ := H
 replace H : (if t688 = 0 then (q_Least.j0 k t687 t688 ((t687.length : Int) == 0)) else (q_Least.j0 k t687 t688 true)) = some (r1, r2, r3, r4) := H
 have A2 := Ak A20
 clear A20
 have HC3 := Ak H
 clear H
 go_enter Try.func42, Try.ntmps42
 go_upto_region 2 with (first | ((with_reducible refine gate_callee (f := 25) rfl ?_); refine goesL_ (some 10) rfl rfl Try.func25 (by kernel_rfl) rfl #[.slice A0 l0.length c0] rfl (by (try simp only [lm]); rfl) ?_; (with_reducible refine (q_Decode.calls k _ _ l0 t687 t688 _ ?side1 ?side2 A2.out).mono ?_); (case side1 => repeat (exact HR0.out)); (case side2 => exact HC0.out); rintro e w4 ⟨v689, rfl, ho0, hb⟩; refine ⟨_, rfl, ?_⟩; have n0_ := Ak (Kd.R_lower ho0 (below_size (by exact HB.out))); have n1_ := Ak (below_step (by exact HB.out) hb); clear HB; have HO690 := n0_; have HB := n1_; clear n0_ n1_; (try clear hb); (try clear ho0)))
 (try simp only [Act.put, List.setIfInBounds_toArray, List.set_cons_zero, List.set_cons_succ])
 go_cut [19] (fun v19 wc => ∃ (kq : Nat) (x19_2 : Bool), v19 = .bool x19_2 ∧ Aside0 (q_Least.j0 kq t687 t688 x19_2 = some (r1, r2, r3, r4)) ∧ Aside0 (kq ≤ k) ∧ Aside0 (Kd.R (Kd.int .i64) 3 wc w.heap.size (fun _ => True) v689 t687) ∧ Aside0 (Below w.heap.size w wc))
 case first =>
  have H := HC3.out
  clear HC3
  by_cases c5 : t688 = 0
  ·rw [if_pos c5] at H
   have c5b0 : (t688 == 0) = true := beq_iff_eq.mpr c5
   have c5b1 : (t688 != 0) = false := bne_eq_false_iff_eq.mpr c5
   clear c5
   (skip)
   (try rw [c5b1])
   have H' := Ak H
   clear H
   obtain ⟨Ao6, co6, eo6⟩ := Kd.R_slice HO690.out
   subst eo6
   go_wp2
   go_meet
   case rel => exact ⟨_, (((t687.length : Int) == 0)), (by rfl), H', ⟨by omega⟩, ⟨by exact HO690.out⟩, ⟨by exact HB.out⟩⟩
  ·rw [if_neg c5] at H
   have c5b0 : (t688 == 0) = false := beq_eq_false_iff_ne.mpr c5
   have c5b1 : (t688 != 0) = true := bne_iff_ne.mpr c5
   (skip)
   (try rw [c5b1])
   have H' := Ak H
   clear H
   go_wp2
   go_meet
   case rel => exact ⟨_, (true), (by rfl), H', ⟨by omega⟩, ⟨by exact HO690.out⟩, ⟨by exact HB.out⟩⟩
 case rest =>
  clear HC3
  obtain ⟨kq, x19_2, rfl, HA, HJ2, HO_6, HB⟩ := hcut
  cases kq with
  | zero => exact absurd HA.out (by simp [q_Least.j0])
  | succ kj2 =>
   have H := HA.out
   clear HA
   simp only [q_Least.j0] at H
   by_cases c7 : x19_2 = true
   ·subst c7
    replace H : (some (0, 0, false, t688)) = some (r1, r2, r3, r4) := by rw [if_pos rfl] at H; exact H
    simp only [Option.some.injEq, Prod.mk.injEq] at H
    obtain ⟨rfl, rfl, rfl, rfl⟩ := H
    go_wp2
    refine bodyPost_ret (results_list (rs := [.tmp 2, .tmp 3, .tmp 4, .tmp 5]) rfl (by simp) (.tmp (.tmp (.tmp (.tmp .nil))))) rfl ?_
    exact ⟨by rfl, by exact HB.out⟩
   ·replace c7 := Bool.eq_false_iff.mpr c7
    subst c7
    replace H : ((s_Min.f t687).bind fun t691 => ((s_Max.f t687).bind fun t692 => (some (t691, t692, true, 0)))) = some (r1, r2, r3, r4) := by rw [if_neg (show ¬ (false = true) by decide)] at H; exact H
    replace H := Option.bind_eq_some_iff.mp H
    obtain ⟨t691, A80, H⟩ := H
    replace H : ((s_Max.f t687).bind fun t692 => (some (t691, t692, true, 0))) = some (r1, r2, r3, r4) := H
    have A8 := Ak A80
    clear A80
    replace H := Option.bind_eq_some_iff.mp H
    obtain ⟨t692, A90, H⟩ := H
    replace H : (some (t691, t692, true, 0)) = some (r1, r2, r3, r4) := H
    have A9 := Ak A90
    clear A90
    simp only [Option.some.injEq, Prod.mk.injEq] at H
    obtain ⟨rfl, rfl, rfl, rfl⟩ := H
    obtain ⟨Ao10, co10, eo10⟩ := Kd.R_slice HO_6.out
    subst eo10
    go_wp2_with (first | ((with_reducible refine gate_callee (f := 30) rfl ?_); refine goesL_ (some 22) rfl rfl Try.func30 (by kernel_rfl) rfl #[.slice Ao10 t687.length co10] rfl (by (try simp only [lm]); rfl) ?_; (with_reducible refine (s_Min.calls _ _ t687 t691 _ ?side1 ?side2 A8.out).mono ?_); (case side1 => repeat (exact (Kd.R_reads' HO_6.out).2.2)); (case side2 => exact (Kd.R_reads' HO_6.out).2.1); rintro e w' ⟨rfl, ⟨nd, rfl⟩⟩; refine ⟨_, rfl, ?_⟩) | ((with_reducible refine gate_callee (f := 31) rfl ?_); refine goesL_ (some 24) rfl rfl Try.func31 (by kernel_rfl) rfl #[.slice Ao10 t687.length co10] rfl (by (try simp only [lm]); rfl) ?_; (with_reducible refine (s_Max.calls _ _ t687 t692 _ ?side1 ?side2 A9.out).mono ?_); (case side1 => repeat (exact (Kd.R_reads' HO_6.out).2.2)); (case side2 => exact (Kd.R_reads' HO_6.out).2.1); rintro e w' ⟨rfl, ⟨nd, rfl⟩⟩; refine ⟨_, rfl, ?_⟩))
    refine bodyPost_ret (results_list (rs := [.tmp 2, .tmp 3, .tmp 4, .tmp 5]) rfl (by simp) (.tmp (.tmp (.tmp (.tmp .nil))))) rfl ?_
    exact ⟨by rfl, by repeat ((with_reducible first | exact HB.out | apply pw_below_drewN))⟩
def q_Best.l0 : Nat → List Int → Int → Int → Option (Int × Int)
 | 0, _, _, _ => none
 | k + 1, x0, x5, x6 => if x6 ≤ 5 then ((q_bytesOf.f k x6 x0).bind fun t694 => ((q_bytesOf.f k x5 x0).bind fun t697 => (if (t694.length : Int) < (t697.length : Int) then (q_Best.l0 k x0 x6 (wrap64 (x6 + 1))) else (q_Best.l0 k x0 x5 (wrap64 (x6 + 1)))))) else (some (x5, 0))
def q_Best.f (k : Nat) (l0 : List Int) : Option (Int × Int) := (q_checkInts.f k l0).bind fun t693 => (if t693 = 0 then (q_Best.l0 k l0 1 2) else (some (0, t693)))
theorem q_Best.mono_l : ∀ k, (∀ y0 y1 y2, LeO (q_Best.l0 k y0 y1 y2) (q_Best.l0 (k + 1) y0 y1 y2))
 | 0 => fun _ _ _ r h => by simp [q_Best.l0] at h
 | k + 1 => by
  have ih0 := q_Best.mono_l k
  ·intro y0 y1 y2
   unfold q_Best.l0
   repeat' first
   | (with_reducible exact ih0 _ _ _)
   | (with_reducible exact q_bytesOf.mono _ _ _)
   | (with_reducible exact LeO.refl _)
   | (with_reducible refine LeO.ite ?_ ?_)
   | (with_reducible refine LeO.bind ?_ (fun _ => ?_))
theorem q_Best.mono : ∀ a0 k, LeO (q_Best.f k a0) (q_Best.f (k + 1) a0) := by
 intro a0 k
 have ih0 := q_Best.mono_l k
 unfold q_Best.f
 repeat' first
  | (with_reducible exact ih0 _ _ _)
  | (with_reducible exact q_checkInts.mono _ _)
  | (with_reducible exact LeO.refl _)
  | (with_reducible refine LeO.ite ?_ ?_)
  | (with_reducible refine LeO.bind ?_ (fun _ => ?_))
set_option maxHeartbeats 8000000 in
set_option maxRecDepth 100000 in
theorem q_Best.calls (k : Nat) (A0 : Option Addr) (c0 : Nat) (l0 : List Int) (r1 : Int) (r2 : Int) (w : World) (hr0 : Kd.C (Kd.int .i64) w A0 l0.length l0) (hc0 : l0.length ≤ c0) (h : q_Best.f k l0 = some (r1, r2)) :
 Calls Try.prog 24 #[.slice A0 l0.length c0] w fun e w' => e = .returned (.tuple #[.int .i64 r1, .int .i64 r2]) ∧ Below w.heap.size w w' := by
 have HR0 := Ak hr0
 have HC0 := Ak hc0
 clear hr0 hc0
 have HB := Ak (Below.refl w.heap.size w)
 have H : ((q_checkInts.f k l0).bind fun t693 => (if t693 = 0 then (q_Best.l0 k l0 1 2) else (some (0, t693)))) = some (r1, r2) := h
 clear h
 replace H := Option.bind_eq_some_iff.mp H
 obtain ⟨t693, A20, H⟩ := H
 replace H : (if t693 = 0 then (q_Best.l0 k l0 1 2) else (some (0, t693))) = some (r1, r2) := H
 have A2 := Ak A20
 clear A20
 by_cases c3 : t693 = 0
 ·rw [if_pos c3] at H
  have c3b0 : (t693 == 0) = true := beq_iff_eq.mpr c3
  have c3b1 : (t693 != 0) = false := bne_eq_false_iff_eq.mpr c3
  clear c3
  have H' := Ak H
  clear H
  go_enter Try.func24, Try.ntmps24
  go_wp2_with (first | ((with_reducible refine gate_callee (f := 62) rfl ?_); refine goesL_ (some 8) rfl rfl Try.func62 (by kernel_rfl) rfl #[.slice A0 l0.length c0] rfl (by (try simp only [lm]); rfl) ?_; (with_reducible refine (q_checkInts.calls k _ _ l0 t693 _ ?side1 ?side2 A2.out).mono ?_); (case side1 => repeat (exact HR0.out)); (case side2 => exact HC0.out); rintro e w' ⟨rfl, ⟨nd, rfl⟩⟩; refine ⟨_, rfl, ?_⟩))
  go_loopg [5, 6] k (fun kq v5 v6 w' => ∃ (x5_1 : Int) (x6_1 : Int), v5 = .int .i64 x5_1 ∧ v6 = .int .i64 x6_1 ∧ Aside0 (q_Best.l0 kq l0 x5_1 x6_1 = some (r1, r2)) ∧ Aside0 (kq ≤ k) ∧ Aside0 (Below w.heap.size w w'))
  case atStart => exact ⟨(1), (2), (by rfl), (by rfl), H', ⟨Nat.le_refl _⟩, ⟨by repeat ((with_reducible first | exact HB.out | apply pw_below_drewN))⟩⟩
  case round =>
   clear H'
   try clear c3b0
   try clear c3b1
   obtain ⟨x5_1, x6_1, rfl, rfl, HA, HK1, HB⟩ := hrel
   cases gk with
   | zero => exact absurd HA.out (by simp [q_Best.l0])
   | succ k1 =>
    have H := HA.out
    clear HA
    simp only [q_Best.l0] at H
    by_cases c4 : x6_1 ≤ 5
    ·rw [if_pos c4] at H
     have c4b0 : decide (x6_1 ≤ 5) = true := decide_eq_true c4
     clear c4
     replace H := Option.bind_eq_some_iff.mp H
     obtain ⟨t694, A50, H⟩ := H
     replace H : ((q_bytesOf.f k1 x5_1 l0).bind fun t697 => (if (t694.length : Int) < (t697.length : Int) then (q_Best.l0 k1 l0 x6_1 (wrap64 (x6_1 + 1))) else (q_Best.l0 k1 l0 x5_1 (wrap64 (x6_1 + 1))))) = some (r1, r2) := H
     have A5 := Ak A50
     clear A50
     replace H := Option.bind_eq_some_iff.mp H
     obtain ⟨t697, A60, H⟩ := H
     replace H : (if (t694.length : Int) < (t697.length : Int) then (q_Best.l0 k1 l0 x6_1 (wrap64 (x6_1 + 1))) else (q_Best.l0 k1 l0 x5_1 (wrap64 (x6_1 + 1)))) = some (r1, r2) := H
     have A6 := Ak A60
     clear A60
     by_cases c7 : (t694.length : Int) < (t697.length : Int)
     ·rw [if_pos c7] at H
      have c7b0 : decide ((t694.length : Int) < (t697.length : Int)) = true := decide_eq_true c7
      have c7b1 : decide (t694.length < t697.length) = true := decide_eq_true (Int.ofNat_lt.mp c7)
      clear c7
      have H' := Ak H
      clear H
      go_wp2_with (first | ((with_reducible refine gate_callee (f := 63) rfl ?_); refine goesL_ (some 18) rfl rfl Try.func63 (by kernel_rfl) rfl #[.int .i64 x6_1, .slice A0 l0.length c0] rfl (by (try simp only [lm]); rfl) ?_; (with_reducible refine (q_bytesOf.calls k1 x6_1 _ _ l0 t694 _ ?side1 ?side2 A5.out).mono ?_); (case side1 => repeat (exact (Kd.C_below HR0.out HB.out))); (case side2 => exact HC0.out); rintro e w8 ⟨v695, rfl, ho0, hb⟩; refine ⟨_, rfl, ?_⟩; have n0_ := Ak (Kd.R_lower ho0 (below_size (by exact HB.out))); have n1_ := Ak (below_step (by exact HB.out) hb); clear HB; have HO696 := n0_; have HB := n1_; clear n0_ n1_; (try clear hb); (try clear ho0); obtain ⟨Ao9, co9, eo9⟩ := Kd.R_slice HO696.out; subst eo9) | ((with_reducible refine gate_callee (f := 63) rfl ?_); refine goesL_ (some 22) rfl rfl Try.func63 (by kernel_rfl) rfl #[.int .i64 x5_1, .slice A0 l0.length c0] rfl (by (try simp only [lm]); rfl) ?_; (with_reducible refine (q_bytesOf.calls k1 x5_1 _ _ l0 t697 _ ?side1 ?side2 A6.out).mono ?_); (case side1 => repeat (exact (Kd.C_below HR0.out HB.out))); (case side2 => exact HC0.out); rintro e w10 ⟨v698, rfl, ho0, hb⟩; refine ⟨_, rfl, ?_⟩; have n0_ := Ak (Kd.R_elder' (by exact HO696.out) (Kd.R_base ho0) hb); have n1_ := Ak (Kd.R_lower (Kd.R_new' ho0 (Kd.R_lt (by exact HO696.out))) (below_size (by exact HB.out))); have n2_ := Ak (below_step (by exact HB.out) hb); clear HO696 HB; have HO696 := n0_; have HO699 := n1_; have HB := n2_; clear n0_ n1_ n2_; (try clear hb); (try clear ho0); obtain ⟨Ao11, co11, eo11⟩ := Kd.R_slice HO699.out; subst eo11))
      go_roundg k1
      case measure => have := HK1.out; omega
      case rel => exact ⟨(x6_1), (wrap64 (x6_1 + 1)), (by rfl), (by rfl), H', ⟨by have := HK1.out; omega⟩, ⟨by exact HB.out⟩⟩
     ·rw [if_neg c7] at H
      have c7b0 : decide ((t694.length : Int) < (t697.length : Int)) = false := decide_eq_false c7
      have c7b1 : decide (t694.length < t697.length) = false := decide_eq_false (fun h => c7 (Int.ofNat_lt.mpr h))
      clear c7
      have H' := Ak H
      clear H
      go_wp2_with (first | ((with_reducible refine gate_callee (f := 63) rfl ?_); refine goesL_ (some 18) rfl rfl Try.func63 (by kernel_rfl) rfl #[.int .i64 x6_1, .slice A0 l0.length c0] rfl (by (try simp only [lm]); rfl) ?_; (with_reducible refine (q_bytesOf.calls k1 x6_1 _ _ l0 t694 _ ?side1 ?side2 A5.out).mono ?_); (case side1 => repeat (exact (Kd.C_below HR0.out HB.out))); (case side2 => exact HC0.out); rintro e w12 ⟨v695, rfl, ho0, hb⟩; refine ⟨_, rfl, ?_⟩; have n0_ := Ak (Kd.R_lower ho0 (below_size (by exact HB.out))); have n1_ := Ak (below_step (by exact HB.out) hb); clear HB; have HO696 := n0_; have HB := n1_; clear n0_ n1_; (try clear hb); (try clear ho0); obtain ⟨Ao13, co13, eo13⟩ := Kd.R_slice HO696.out; subst eo13) | ((with_reducible refine gate_callee (f := 63) rfl ?_); refine goesL_ (some 22) rfl rfl Try.func63 (by kernel_rfl) rfl #[.int .i64 x5_1, .slice A0 l0.length c0] rfl (by (try simp only [lm]); rfl) ?_; (with_reducible refine (q_bytesOf.calls k1 x5_1 _ _ l0 t697 _ ?side1 ?side2 A6.out).mono ?_); (case side1 => repeat (exact (Kd.C_below HR0.out HB.out))); (case side2 => exact HC0.out); rintro e w14 ⟨v698, rfl, ho0, hb⟩; refine ⟨_, rfl, ?_⟩; have n0_ := Ak (Kd.R_elder' (by exact HO696.out) (Kd.R_base ho0) hb); have n1_ := Ak (Kd.R_lower (Kd.R_new' ho0 (Kd.R_lt (by exact HO696.out))) (below_size (by exact HB.out))); have n2_ := Ak (below_step (by exact HB.out) hb); clear HO696 HB; have HO696 := n0_; have HO699 := n1_; have HB := n2_; clear n0_ n1_ n2_; (try clear hb); (try clear ho0); obtain ⟨Ao15, co15, eo15⟩ := Kd.R_slice HO699.out; subst eo15))
      go_roundg k1
      case measure => have := HK1.out; omega
      case rel => exact ⟨(x5_1), (wrap64 (x6_1 + 1)), (by rfl), (by rfl), H', ⟨by have := HK1.out; omega⟩, ⟨by exact HB.out⟩⟩
    ·rw [if_neg c4] at H
     have c4b0 : decide (x6_1 ≤ 5) = false := decide_eq_false c4
     clear c4
     simp only [Option.some.injEq, Prod.mk.injEq] at H
     obtain ⟨rfl, rfl⟩ := H
     go_wp2
     go_ret2
     exact ⟨by rfl, by exact HB.out⟩
 ·rw [if_neg c3] at H
  have c3b0 : (t693 == 0) = false := beq_eq_false_iff_ne.mpr c3
  have c3b1 : (t693 != 0) = true := bne_iff_ne.mpr c3
  simp only [Option.some.injEq, Prod.mk.injEq] at H
  obtain ⟨rfl, rfl⟩ := H
  go_enter Try.func24, Try.ntmps24
  go_wp2_with (first | ((with_reducible refine gate_callee (f := 62) rfl ?_); refine goesL_ (some 8) rfl rfl Try.func62 (by kernel_rfl) rfl #[.slice A0 l0.length c0] rfl (by (try simp only [lm]); rfl) ?_; (with_reducible refine (q_checkInts.calls k _ _ l0 t693 _ ?side1 ?side2 A2.out).mono ?_); (case side1 => repeat (exact HR0.out)); (case side2 => exact HC0.out); rintro e w' ⟨rfl, ⟨nd, rfl⟩⟩; refine ⟨_, rfl, ?_⟩))
  go_ret2
  exact ⟨by rfl, by repeat ((with_reducible first | exact HB.out | apply pw_below_drewN))⟩
def q_Joined.f (k : Nat) (l0 : List Int) (l1 : List Int) : Option (List Int × Int) := (q_Decode.f k l0).bind fun bt700 => (if bt700.2 = 0 then ((q_Decode.f k l1).bind fun bt704 => (if bt704.2 = 0 then (if (wrap64 ((bt700.1.length : Int) + (bt704.1.length : Int))) > 2000 then (some (([] : List Int), 2)) else ((s_Concat.f k (([bt700.1, bt704.1] : List (List Int)))).bind fun t711 => ((q_Best.f k t711).bind fun bt714 => ((q_bytesOf.f k bt714.1 t711).bind fun t716 => (some (t716, 0)))))) else (some (([] : List Int), bt704.2)))) else (some (([] : List Int), bt700.2)))
theorem q_Joined.mono : ∀ a0 a1 k, LeO (q_Joined.f k a0 a1) (q_Joined.f (k + 1) a0 a1) := by
 intro a0 a1 k
 unfold q_Joined.f
 repeat' first
  | (with_reducible exact q_Best.mono _ _)
  | (with_reducible exact q_Decode.mono _ _)
  | (with_reducible exact q_bytesOf.mono _ _ _)
  | (with_reducible exact s_Concat.mono _ _)
  | (with_reducible exact LeO.refl _)
  | (with_reducible refine LeO.ite ?_ ?_)
  | (with_reducible refine LeO.bind ?_ (fun _ => ?_))
set_option maxHeartbeats 8000000 in
set_option maxRecDepth 100000 in
theorem q_Joined.calls (k : Nat) (A0 : Option Addr) (c0 : Nat) (l0 : List Int) (A1 : Option Addr) (c1 : Nat) (l1 : List Int) (r1 : List Int) (r2 : Int) (w : World) (hr0 : Kd.C (Kd.int .u8) w A0 l0.length l0) (hc0 : l0.length ≤ c0) (hr1 : Kd.C (Kd.int .u8) w A1 l1.length l1) (hc1 : l1.length ≤ c1) (h : q_Joined.f k l0 l1 = some (r1, r2)) :
 Calls Try.prog 43 #[.slice A0 l0.length c0, .slice A1 l1.length c1] w fun e w' => ∃ v0_ : Value, e = .returned (.tuple #[v0_, .int .i64 r2]) ∧ Kd.R (Kd.int .u8) 5 w' w.heap.size (fun _ => True) v0_ r1 ∧ Below w.heap.size w w' := by
 have HR0 := Ak hr0
 have HC0 := Ak hc0
 clear hr0 hc0
 have HR1 := Ak hr1
 have HC1 := Ak hc1
 clear hr1 hc1
 have HB := Ak (Below.refl w.heap.size w)
 have H : ((q_Decode.f k l0).bind fun bt700 => (if bt700.2 = 0 then ((q_Decode.f k l1).bind fun bt704 => (if bt704.2 = 0 then (if (wrap64 ((bt700.1.length : Int) + (bt704.1.length : Int))) > 2000 then (some (([] : List Int), 2)) else ((s_Concat.f k (([bt700.1, bt704.1] : List (List Int)))).bind fun t711 => ((q_Best.f k t711).bind fun bt714 => ((q_bytesOf.f k bt714.1 t711).bind fun t716 => (some (t716, 0)))))) else (some (([] : List Int), bt704.2)))) else (some (([] : List Int), bt700.2)))) = some (r1, r2) := h
 clear h
 replace H := Option.bind_eq_some_iff.mp H
 obtain ⟨⟨t700, t701⟩, A30, H⟩ := H
 replace H : (if t701 = 0 then ((q_Decode.f k l1).bind fun bt704 => (if bt704.2 = 0 then (if (wrap64 ((t700.length : Int) + (bt704.1.length : Int))) > 2000 then (some (([] : List Int), 2)) else ((s_Concat.f k (([t700, bt704.1] : List (List Int)))).bind fun t711 => ((q_Best.f k t711).bind fun bt714 => ((q_bytesOf.f k bt714.1 t711).bind fun t716 => (some (t716, 0)))))) else (some (([] : List Int), bt704.2)))) else (some (([] : List Int), t701))) = some (r1, r2) := H
 have A3 := Ak A30
 clear A30
 by_cases c4 : t701 = 0
 ·rw [if_pos c4] at H
  have c4b0 : (t701 == 0) = true := beq_iff_eq.mpr c4
  have c4b1 : (t701 != 0) = false := bne_eq_false_iff_eq.mpr c4
  clear c4
  replace H := Option.bind_eq_some_iff.mp H
  obtain ⟨⟨t704, t705⟩, A50, H⟩ := H
  replace H : (if t705 = 0 then (if (wrap64 ((t700.length : Int) + (t704.length : Int))) > 2000 then (some (([] : List Int), 2)) else ((s_Concat.f k (([t700, t704] : List (List Int)))).bind fun t711 => ((q_Best.f k t711).bind fun bt714 => ((q_bytesOf.f k bt714.1 t711).bind fun t716 => (some (t716, 0)))))) else (some (([] : List Int), t705))) = some (r1, r2) := H
  have A5 := Ak A50
  clear A50
  by_cases c6 : t705 = 0
  ·rw [if_pos c6] at H
   have c6b0 : (t705 == 0) = true := beq_iff_eq.mpr c6
   have c6b1 : (t705 != 0) = false := bne_eq_false_iff_eq.mpr c6
   clear c6
   by_cases c7 : (wrap64 ((t700.length : Int) + (t704.length : Int))) > 2000
   ·rw [if_pos c7] at H
    have c7b0 : decide (2000 < (wrap64 ((t700.length : Int) + (t704.length : Int)))) = true := decide_eq_true c7
    clear c7
    simp only [Option.some.injEq, Prod.mk.injEq] at H
    obtain ⟨rfl, rfl⟩ := H
    go_enter Try.func43, Try.ntmps43
    go_wp2_with (first | ((with_reducible refine gate_callee (f := 25) rfl ?_); refine goesL_ (some 14) rfl rfl Try.func25 (by kernel_rfl) rfl #[.slice A0 l0.length c0] rfl (by (try simp only [lm]); rfl) ?_; (with_reducible refine (q_Decode.calls k _ _ l0 t700 t701 _ ?side1 ?side2 A3.out).mono ?_); (case side1 => repeat (exact HR0.out)); (case side2 => exact HC0.out); rintro e w8 ⟨v702, rfl, ho0, hb⟩; refine ⟨_, rfl, ?_⟩; have n0_ := Ak (Kd.R_lower ho0 (below_size (by exact HB.out))); have n1_ := Ak (below_step (by exact HB.out) hb); clear HB; have HO703 := n0_; have HB := n1_; clear n0_ n1_; (try clear hb); (try clear ho0)) | ((with_reducible refine gate_callee (f := 25) rfl ?_); refine goesL_ (some 22) rfl rfl Try.func25 (by kernel_rfl) rfl #[.slice A1 l1.length c1] rfl (by (try simp only [lm]); rfl) ?_; (with_reducible refine (q_Decode.calls k _ _ l1 t704 t705 _ ?side1 ?side2 A5.out).mono ?_); (case side1 => repeat (exact (Kd.C_below HR1.out HB.out))); (case side2 => exact HC1.out); rintro e w9 ⟨v706, rfl, ho0, hb⟩; refine ⟨_, rfl, ?_⟩; have n0_ := Ak (Kd.R_elder' (by exact HO703.out) (Kd.R_base ho0) hb); have n1_ := Ak (Kd.R_lower (Kd.R_new' ho0 (Kd.R_lt (by exact HO703.out))) (below_size (by exact HB.out))); have n2_ := Ak (below_step (by exact HB.out) hb); clear HO703 HB; have HO703 := n0_; have HO707 := n1_; have HB := n2_; clear n0_ n1_ n2_; (try clear hb); (try clear ho0); obtain ⟨Ao10, co10, eo10⟩ := Kd.R_slice HO703.out; subst eo10; obtain ⟨Ao11, co11, eo11⟩ := Kd.R_slice HO707.out; subst eo11))
    go_ret2
    exact ⟨_, by rfl, by exact Kd.R_nil _ _ _ _ _, by exact HB.out⟩
   ·rw [if_neg c7] at H
    have c7b0 : decide (2000 < (wrap64 ((t700.length : Int) + (t704.length : Int)))) = false := decide_eq_false c7
    clear c7
    obtain ⟨y708, hy708⟩ : ∃ y_ : List (List Int), y_ = (([t700, t704] : List (List Int))) := ⟨_, rfl⟩
    replace H : ((s_Concat.f k y708).bind fun t711 => ((q_Best.f k t711).bind fun bt714 => ((q_bytesOf.f k bt714.1 t711).bind fun t716 => (some (t716, 0))))) = some (r1, r2) := by (rw [hy708]; with_reducible exact H)
    have Ny708 := Ak hy708
    clear hy708
    replace H := Option.bind_eq_some_iff.mp H
    obtain ⟨t711, A120, H⟩ := H
    replace H : ((q_Best.f k t711).bind fun bt714 => ((q_bytesOf.f k bt714.1 t711).bind fun t716 => (some (t716, 0)))) = some (r1, r2) := H
    have A12 := Ak A120
    clear A120
    replace H := Option.bind_eq_some_iff.mp H
    obtain ⟨⟨t714, t715⟩, A130, H⟩ := H
    replace H : ((q_bytesOf.f k t714 t711).bind fun t716 => (some (t716, 0))) = some (r1, r2) := H
    have A13 := Ak A130
    clear A130
    replace H := Option.bind_eq_some_iff.mp H
    obtain ⟨t716, A140, H⟩ := H
    replace H : (some (t716, 0)) = some (r1, r2) := H
    have A14 := Ak A140
    clear A140
    simp only [Option.some.injEq, Prod.mk.injEq] at H
    obtain ⟨rfl, rfl⟩ := H
    go_enter Try.func43, Try.ntmps43
    go_wp2_with (first | ((with_reducible refine gate_callee (f := 25) rfl ?_); refine goesL_ (some 14) rfl rfl Try.func25 (by kernel_rfl) rfl #[.slice A0 l0.length c0] rfl (by (try simp only [lm]); rfl) ?_; (with_reducible refine (q_Decode.calls k _ _ l0 t700 t701 _ ?side1 ?side2 A3.out).mono ?_); (case side1 => repeat (exact HR0.out)); (case side2 => exact HC0.out); rintro e w15 ⟨v702, rfl, ho0, hb⟩; refine ⟨_, rfl, ?_⟩; have n0_ := Ak (Kd.R_lower ho0 (below_size (by exact HB.out))); have n1_ := Ak (below_step (by exact HB.out) hb); clear HB; have HO703 := n0_; have HB := n1_; clear n0_ n1_; (try clear hb); (try clear ho0)) | ((with_reducible refine gate_callee (f := 25) rfl ?_); refine goesL_ (some 22) rfl rfl Try.func25 (by kernel_rfl) rfl #[.slice A1 l1.length c1] rfl (by (try simp only [lm]); rfl) ?_; (with_reducible refine (q_Decode.calls k _ _ l1 t704 t705 _ ?side1 ?side2 A5.out).mono ?_); (case side1 => repeat (exact (Kd.C_below HR1.out HB.out))); (case side2 => exact HC1.out); rintro e w16 ⟨v706, rfl, ho0, hb⟩; refine ⟨_, rfl, ?_⟩; have n0_ := Ak (Kd.R_elder' (by exact HO703.out) (Kd.R_base ho0) hb); have n1_ := Ak (Kd.R_lower (Kd.R_new' ho0 (Kd.R_lt (by exact HO703.out))) (below_size (by exact HB.out))); have n2_ := Ak (below_step (by exact HB.out) hb); clear HO703 HB; have HO703 := n0_; have HO707 := n1_; have HB := n2_; clear n0_ n1_ n2_; (try clear hb); (try clear ho0); obtain ⟨Ao17, co17, eo17⟩ := Kd.R_slice HO703.out; subst eo17; obtain ⟨Ao18, co18, eo18⟩ := Kd.R_slice HO707.out; subst eo18) | ((with_reducible refine gate_dst (N := 36) rfl ?_); refine Kd.N_lit (Kd.slice 3 (Kd.int .i64)) _ 22 ?hg (N' := 36) ?hd (xs := ([t700, t704] : List (List Int))) (inner := [.slice Ao17 t700.length co17, .slice Ao18 t704.length co18]) (ok := (fun _ => True)) (okp := (fun _ => True)) ?hr ?hp (fun _ hk => hk) ((show ∀ k_, w16.heap.size ≤ k_ → (fun _ => True) k_ from fun k_ hk => trivial) _ (Nat.le_refl _)) (Below.refl _ _) (Nat.le_refl _) (by simp) ?_; (case hd => rfl); (case hg => rfl); (case hr => (go_simp; done)); (case hp => exact (Reps.one (show Kd.FK (Kd.slice 3 (Kd.int .i64)) _ _ t700 [.slice Ao17 t700.length co17] from (Kd.FK_slice_mk (Kd.R_reads' (Kd.R_mono (ok' := (fun _ => True)) (HO703.out) (fun k_ hk => trivial))).2.1 (Kd.R_F (Kd.R_mono (ok' := (fun _ => True)) (HO703.out) (fun k_ hk => trivial))))) (Reps.one (show Kd.FK (Kd.slice 3 (Kd.int .i64)) _ _ t704 [.slice Ao18 t704.length co18] from (Kd.FK_slice_mk (Kd.R_reads' (Kd.R_mono (ok' := (fun _ => True)) (HO707.out) (fun k_ hk => trivial))).2.1 (Kd.R_F (Kd.R_mono (ok' := (fun _ => True)) (HO707.out) (fun k_ hk => trivial))))) (Reps.none _ _)))); intro v709 w19 ho20 hb hg_ hnew_; clear hg_ hnew_; (rw [← Ny708.out] at ho20); have n0_ := Ak (Kd.N_lower ho20 (below_size (by exact HB.out))); have n1_ := Ak (below_step (by exact HB.out) hb); clear HB HO703 HO707; have HO710 := n0_; have HB := n1_; clear n0_ n1_ hb ho20; obtain ⟨Ao21, co21, eo21⟩ := Kd.N_slice HO710.out; subst eo21) | ((with_reducible refine gate_callee (f := 34) rfl ?_); refine goesL_ (some 37) rfl rfl Try.func34 (by kernel_rfl) rfl #[.slice Ao21 y708.length co21] rfl (by (try simp only [lm]); rfl) ?_; (with_reducible refine (s_Concat.calls k _ _ y708 t711 _ ?side1 ?side2 A12.out).mono ?_); (case side1 => repeat (exact (Kd.N_reads' HO710.out).2.2)); (case side2 => exact (Kd.N_reads' HO710.out).2.1); rintro e w22 ⟨v712, rfl, ho0, hb⟩; refine ⟨_, rfl, ?_⟩; have n0_ := Ak (Kd.N_elder' (by exact HO710.out) (Kd.R_base ho0) hb); have n1_ := Ak (Kd.R_lower ho0 (below_size (by exact HB.out))); have n2_ := Ak (below_step (by exact HB.out) hb); clear HO710 HB; have HO710 := n0_; have HO713 := n1_; have HB := n2_; clear n0_ n1_ n2_; (try clear hb); (try clear ho0); obtain ⟨Ao23, co23, eo23⟩ := Kd.R_slice HO713.out; subst eo23) | ((with_reducible refine gate_callee (f := 24) rfl ?_); refine goesL_ (some 40) rfl rfl Try.func24 (by kernel_rfl) rfl #[.slice Ao23 t711.length co23] rfl (by (try simp only [lm]); rfl) ?_; (with_reducible refine (q_Best.calls k _ _ t711 t714 t715 _ ?side1 ?side2 A13.out).mono ?_); (case side1 => repeat (exact (Kd.R_reads' HO713.out).2.2)); (case side2 => exact (Kd.R_reads' HO713.out).2.1); rintro e w24 ⟨rfl, hb⟩; refine ⟨_, rfl, ?_⟩; have n0_ := Ak (Kd.N_below (by exact HO710.out) hb); have n1_ := Ak (Kd.R_below (by exact HO713.out) hb); have n2_ := Ak (below_step (by exact HB.out) hb); clear HO710 HO713 HB; have HO710 := n0_; have HO713 := n1_; have HB := n2_; clear n0_ n1_ n2_; (try clear hb); (try clear hi)) | ((with_reducible refine gate_callee (f := 63) rfl ?_); refine goesL_ (some 45) rfl rfl Try.func63 (by kernel_rfl) rfl #[.int .i64 t714, .slice Ao23 t711.length co23] rfl (by (try simp only [lm]); rfl) ?_; (with_reducible refine (q_bytesOf.calls k t714 _ _ t711 t716 _ ?side1 ?side2 A14.out).mono ?_); (case side1 => repeat (exact (Kd.R_reads' HO713.out).2.2)); (case side2 => exact (Kd.R_reads' HO713.out).2.1); rintro e w25 ⟨v717, rfl, ho0, hb⟩; refine ⟨_, rfl, ?_⟩; have n0_ := Ak (Kd.N_elder' (by exact HO710.out) (Kd.R_base ho0) hb); have n1_ := Ak (Kd.R_below (by exact HO713.out) hb); have n2_ := Ak (Kd.R_lower ho0 (below_size (by exact HB.out))); have n3_ := Ak (below_step (by exact HB.out) hb); clear HO710 HO713 HB; have HO710 := n0_; have HO713 := n1_; have HO718 := n2_; have HB := n3_; clear n0_ n1_ n2_ n3_; (try clear hb); (try clear ho0)))
    go_ret2
    exact ⟨_, by rfl, by exact HO718.out, by exact HB.out⟩
  ·rw [if_neg c6] at H
   have c6b0 : (t705 == 0) = false := beq_eq_false_iff_ne.mpr c6
   have c6b1 : (t705 != 0) = true := bne_iff_ne.mpr c6
   simp only [Option.some.injEq, Prod.mk.injEq] at H
   obtain ⟨rfl, rfl⟩ := H
   go_enter Try.func43, Try.ntmps43
   go_wp2_with (first | ((with_reducible refine gate_callee (f := 25) rfl ?_); refine goesL_ (some 14) rfl rfl Try.func25 (by kernel_rfl) rfl #[.slice A0 l0.length c0] rfl (by (try simp only [lm]); rfl) ?_; (with_reducible refine (q_Decode.calls k _ _ l0 t700 t701 _ ?side1 ?side2 A3.out).mono ?_); (case side1 => repeat (exact HR0.out)); (case side2 => exact HC0.out); rintro e w26 ⟨v702, rfl, ho0, hb⟩; refine ⟨_, rfl, ?_⟩; have n0_ := Ak (Kd.R_lower ho0 (below_size (by exact HB.out))); have n1_ := Ak (below_step (by exact HB.out) hb); clear HB; have HO703 := n0_; have HB := n1_; clear n0_ n1_; (try clear hb); (try clear ho0)) | ((with_reducible refine gate_callee (f := 25) rfl ?_); refine goesL_ (some 22) rfl rfl Try.func25 (by kernel_rfl) rfl #[.slice A1 l1.length c1] rfl (by (try simp only [lm]); rfl) ?_; (with_reducible refine (q_Decode.calls k _ _ l1 t704 t705 _ ?side1 ?side2 A5.out).mono ?_); (case side1 => repeat (exact (Kd.C_below HR1.out HB.out))); (case side2 => exact HC1.out); rintro e w27 ⟨v706, rfl, ho0, hb⟩; refine ⟨_, rfl, ?_⟩; have n0_ := Ak (Kd.R_elder' (by exact HO703.out) (Kd.R_base ho0) hb); have n1_ := Ak (Kd.R_lower (Kd.R_new' ho0 (Kd.R_lt (by exact HO703.out))) (below_size (by exact HB.out))); have n2_ := Ak (below_step (by exact HB.out) hb); clear HO703 HB; have HO703 := n0_; have HO707 := n1_; have HB := n2_; clear n0_ n1_ n2_; (try clear hb); (try clear ho0)))
   go_ret2
   exact ⟨_, by rfl, by exact Kd.R_nil _ _ _ _ _, by exact HB.out⟩
 ·rw [if_neg c4] at H
  have c4b0 : (t701 == 0) = false := beq_eq_false_iff_ne.mpr c4
  have c4b1 : (t701 != 0) = true := bne_iff_ne.mpr c4
  simp only [Option.some.injEq, Prod.mk.injEq] at H
  obtain ⟨rfl, rfl⟩ := H
  go_enter Try.func43, Try.ntmps43
  go_wp2_with (first | ((with_reducible refine gate_callee (f := 25) rfl ?_); refine goesL_ (some 14) rfl rfl Try.func25 (by kernel_rfl) rfl #[.slice A0 l0.length c0] rfl (by (try simp only [lm]); rfl) ?_; (with_reducible refine (q_Decode.calls k _ _ l0 t700 t701 _ ?side1 ?side2 A3.out).mono ?_); (case side1 => repeat (exact HR0.out)); (case side2 => exact HC0.out); rintro e w28 ⟨v702, rfl, ho0, hb⟩; refine ⟨_, rfl, ?_⟩; have n0_ := Ak (Kd.R_lower ho0 (below_size (by exact HB.out))); have n1_ := Ak (below_step (by exact HB.out) hb); clear HB; have HO703 := n0_; have HB := n1_; clear n0_ n1_; (try clear hb); (try clear ho0)))
  go_ret2
  exact ⟨_, by rfl, by exact Kd.R_nil _ _ _ _ _, by exact HB.out⟩
mutual
def lw.j0 : Nat → List Int → List Int → Int → Int → Bool → Option (Bool)
 | 0, _, _, _, _, _ => none
 | k + 1, x0, x1, x3, x4, x44 => if x44 = true then (some false) else ((e_Where.f k x0 x3 x4).bind fun bt723 => ((q_Where.f k x0 x3 x4).bind fun bt727 => (if bt723.2 = bt727.2 then ((s_Equal.f k bt723.1 bt727.1).bind fun t731 => (lw.j1 k x0 x1 (!t731))) else (lw.j1 k x0 x1 true))))
def lw.j1 : Nat → List Int → List Int → Bool → Option (Bool)
 | 0, _, _, _ => none
 | k + 1, x0, x1, x67 => if x67 = true then (some false) else ((e_Least.f k x0).bind fun bt732 => ((q_Least.f k x0).bind fun bt736 => (if bt732.2.2.2 = bt736.2.2.2 then (if bt732.1 = bt736.1 then (if bt732.2.1 = bt736.2.1 then (lw.j2 k x0 x1 (bt732.2.2.1 != bt736.2.2.1)) else (lw.j2 k x0 x1 true)) else (lw.j2 k x0 x1 true)) else (lw.j2 k x0 x1 true))))
def lw.j2 : Nat → List Int → List Int → Bool → Option (Bool)
 | 0, _, _, _ => none
 | k + 1, x0, x1, x99 => if x99 = true then (some false) else ((e_Joined.f k x0 x1).bind fun bt740 => ((q_Joined.f k x0 x1).bind fun bt744 => (if bt740.2 = bt744.2 then ((s_Equalb.f k bt740.1 bt744.1).bind fun t748 => (if t748 = true then ((peristylelaw2_awake.f k).bind fun t749 => (some t749)) else (some false))) else (some false))))
end
def lw.f (k : Nat) (l0 : List Int) (l1 : List Int) (a2 : Int) (a3 : Int) (a4 : Int) : Option (Bool) := (e_At.f k l0 a2).bind fun bt719 => ((q_At.f k l0 a2).bind fun bt721 => (if bt719.2 = bt721.2 then (lw.j0 k l0 l1 a3 a4 (bt719.1 != bt721.1)) else (lw.j0 k l0 l1 a3 a4 true)))
theorem lw.mono_l : ∀ k, (∀ y0 y1 y2 y3 y4, LeO (lw.j0 k y0 y1 y2 y3 y4) (lw.j0 (k + 1) y0 y1 y2 y3 y4)) ∧ (∀ y0 y1 y2, LeO (lw.j1 k y0 y1 y2) (lw.j1 (k + 1) y0 y1 y2)) ∧ (∀ y0 y1 y2, LeO (lw.j2 k y0 y1 y2) (lw.j2 (k + 1) y0 y1 y2))
 | 0 => ⟨fun _ _ _ _ _ r h => by simp [lw.j0] at h, fun _ _ _ r h => by simp [lw.j1] at h, fun _ _ _ r h => by simp [lw.j2] at h⟩
 | k + 1 => by
  obtain ⟨ih0, ih1, ih2⟩ := lw.mono_l k
  refine ⟨?_, ?_, ?_⟩ <;> intros
  all_goals (first | unfold lw.j0 | unfold lw.j1 | unfold lw.j2)
  all_goals
   repeat' first
   | (with_reducible exact ih1 _ _ _)
   | (with_reducible exact ih2 _ _ _)
   | (with_reducible exact e_Joined.mono _ _ _)
   | (with_reducible exact e_Least.mono _ _)
   | (with_reducible exact e_Where.mono _ _ _ _)
   | (with_reducible exact peristylelaw2_awake.mono _)
   | (with_reducible exact q_Joined.mono _ _ _)
   | (with_reducible exact q_Least.mono _ _)
   | (with_reducible exact q_Where.mono _ _ _ _)
   | (with_reducible exact s_Equalb.mono _ _ _)
   | (with_reducible exact s_Equal.mono _ _ _)
   | (with_reducible exact LeO.refl _)
   | (with_reducible refine LeO.ite ?_ ?_)
   | (with_reducible refine LeO.bind ?_ (fun _ => ?_))
theorem lw.mono : ∀ a0 a1 a2 a3 a4 k, LeO (lw.f k a0 a1 a2 a3 a4) (lw.f (k + 1) a0 a1 a2 a3 a4) := by
 intro a0 a1 a2 a3 a4 k
 obtain ⟨ih0, ih1, ih2⟩ := lw.mono_l k
 unfold lw.f
 repeat' first
  | (with_reducible exact ih0 _ _ _ _ _)
  | (with_reducible exact e_At.mono _ _ _)
  | (with_reducible exact q_At.mono _ _ _)
  | (with_reducible refine LeO.ite ?_ ?_)
  | (with_reducible refine LeO.bind ?_ (fun _ => ?_))
set_option maxHeartbeats 8000000 in
set_option maxRecDepth 100000 in
theorem lw.calls (k : Nat) (A0 : Option Addr) (c0 : Nat) (l0 : List Int) (A1 : Option Addr) (c1 : Nat) (l1 : List Int) (a2 : Int) (a3 : Int) (a4 : Int) (r : Bool) (w : World) (hr0 : Kd.C (Kd.int .u8) w A0 l0.length l0) (hc0 : l0.length ≤ c0) (hr1 : Kd.C (Kd.int .u8) w A1 l1.length l1) (hc1 : l1.length ≤ c1) (h : lw.f k l0 l1 a2 a3 a4 = some r) :
 Calls Try.prog 10 #[.slice A0 l0.length c0, .slice A1 l1.length c1, .int .i64 a2, .int .i64 a3, .int .i64 a4] w fun e w' => e = .returned (.bool r) ∧ Below w.heap.size w w' := by
 have HR0 := Ak hr0
 have HC0 := Ak hc0
 clear hr0 hc0
 have HR1 := Ak hr1
 have HC1 := Ak hc1
 clear hr1 hc1
 have HB := Ak (Below.refl w.heap.size w)
 have H : ((e_At.f k l0 a2).bind fun bt719 => ((q_At.f k l0 a2).bind fun bt721 => (if bt719.2 = bt721.2 then (lw.j0 k l0 l1 a3 a4 (bt719.1 != bt721.1)) else (lw.j0 k l0 l1 a3 a4 true)))) = some r := h
 clear h
 replace H := Option.bind_eq_some_iff.mp H
 obtain ⟨⟨t719, t720⟩, A60, H⟩ := H
 replace H : ((q_At.f k l0 a2).bind fun bt721 => (if t720 = bt721.2 then (lw.j0 k l0 l1 a3 a4 (t719 != bt721.1)) else (lw.j0 k l0 l1 a3 a4 true))) = some r := H
 have A6 := Ak A60
 clear A60
 replace H := Option.bind_eq_some_iff.mp H
 obtain ⟨⟨t721, t722⟩, A70, H⟩ := H
 replace H : (if t720 = t722 then (lw.j0 k l0 l1 a3 a4 (t719 != t721)) else (lw.j0 k l0 l1 a3 a4 true)) = some r := H
 have A7 := Ak A70
 clear A70
 have HC8 := Ak H
 clear H
 go_enter Try.func10, Try.ntmps10
 go_upto_region 3 with (first | ((with_reducible refine gate_callee (f := 26) rfl ?_); refine goesL_ (some 28) rfl rfl Try.func26 (by kernel_rfl) rfl #[.slice A0 l0.length c0, .int .i64 a2] rfl (by (try simp only [lm]); rfl) ?_; (with_reducible refine (e_At.calls k _ _ l0 a2 t719 t720 _ ?side1 ?side2 A6.out).mono ?_); (case side1 => repeat (exact HR0.out)); (case side2 => exact HC0.out); rintro e w9 ⟨rfl, hb⟩; refine ⟨_, rfl, ?_⟩; have n0_ := Ak (below_step (by exact HB.out) hb); clear HB; have HB := n0_; clear n0_; (try clear hb); (try clear hi)) | ((with_reducible refine gate_callee (f := 40) rfl ?_); refine goesL_ (some 34) rfl rfl Try.func40 (by kernel_rfl) rfl #[.slice A0 l0.length c0, .int .i64 a2] rfl (by (try simp only [lm]); rfl) ?_; (with_reducible refine (q_At.calls k _ _ l0 a2 t721 t722 _ ?side1 ?side2 A7.out).mono ?_); (case side1 => repeat (exact (Kd.C_below HR0.out HB.out))); (case side2 => exact HC0.out); rintro e w10 ⟨rfl, hb⟩; refine ⟨_, rfl, ?_⟩; have n0_ := Ak (below_step (by exact HB.out) hb); clear HB; have HB := n0_; clear n0_; (try clear hb); (try clear hi)))
 (try simp only [Act.put, List.setIfInBounds_toArray, List.set_cons_zero, List.set_cons_succ])
 go_cut [44] (fun v44 wc => ∃ (kq : Nat) (x44_7 : Bool), v44 = .bool x44_7 ∧ Aside0 (lw.j0 kq l0 l1 a3 a4 x44_7 = some r) ∧ Aside0 (kq ≤ k) ∧ Aside0 (Below w.heap.size w wc))
 case first =>
  have H := HC8.out
  clear HC8
  by_cases c11 : t720 = t722
  ·rw [if_pos c11] at H
   have c11b0 : (t720 == t722) = true := beq_iff_eq.mpr c11
   have c11b1 : (t720 != t722) = false := bne_eq_false_iff_eq.mpr c11
   clear c11
   (skip)
   (try rw [c11b1])
   have H' := Ak H
   clear H
   go_wp2
   go_meet
   case rel => exact ⟨_, ((t719 != t721)), (by rfl), H', ⟨by omega⟩, ⟨by exact HB.out⟩⟩
  ·rw [if_neg c11] at H
   have c11b0 : (t720 == t722) = false := beq_eq_false_iff_ne.mpr c11
   have c11b1 : (t720 != t722) = true := bne_iff_ne.mpr c11
   (skip)
   (try rw [c11b1])
   have H' := Ak H
   clear H
   go_wp2
   go_meet
   case rel => exact ⟨_, (true), (by rfl), H', ⟨by omega⟩, ⟨by exact HB.out⟩⟩
 case rest =>
  clear HC8
  obtain ⟨kq, x44_7, rfl, HA, HJ7, HB⟩ := hcut
  cases kq with
  | zero => exact absurd HA.out (by simp [lw.j0])
  | succ kj7 =>
   have H := HA.out
   clear HA
   simp only [lw.j0] at H
   by_cases c12 : x44_7 = true
   ·subst c12
    replace H : (some false) = some r := by rw [if_pos rfl] at H; exact H
    obtain rfl := Option.some.inj H
    go_wp2
    go_ret
    exact ⟨by rfl, by exact HB.out⟩
   ·replace c12 := Bool.eq_false_iff.mpr c12
    subst c12
    replace H : ((e_Where.f kj7 l0 a3 a4).bind fun bt723 => ((q_Where.f kj7 l0 a3 a4).bind fun bt727 => (if bt723.2 = bt727.2 then ((s_Equal.f kj7 bt723.1 bt727.1).bind fun t731 => (lw.j1 kj7 l0 l1 (!t731))) else (lw.j1 kj7 l0 l1 true)))) = some r := by rw [if_neg (show ¬ (false = true) by decide)] at H; exact H
    replace H := Option.bind_eq_some_iff.mp H
    obtain ⟨⟨t723, t724⟩, A130, H⟩ := H
    replace H : ((q_Where.f kj7 l0 a3 a4).bind fun bt727 => (if t724 = bt727.2 then ((s_Equal.f kj7 t723 bt727.1).bind fun t731 => (lw.j1 kj7 l0 l1 (!t731))) else (lw.j1 kj7 l0 l1 true))) = some r := H
    have A13 := Ak A130
    clear A130
    replace H := Option.bind_eq_some_iff.mp H
    obtain ⟨⟨t727, t728⟩, A140, H⟩ := H
    replace H : (if t724 = t728 then ((s_Equal.f kj7 t723 t727).bind fun t731 => (lw.j1 kj7 l0 l1 (!t731))) else (lw.j1 kj7 l0 l1 true)) = some r := H
    have A14 := Ak A140
    clear A140
    have HC15 := Ak H
    clear H
    go_upto_region 7 with (first | ((with_reducible refine gate_callee (f := 27) rfl ?_); refine goesL_ (some 49) rfl rfl Try.func27 (by kernel_rfl) rfl #[.slice A0 l0.length c0, .int .i64 a3, .int .i64 a4] rfl (by (try simp only [lm]); rfl) ?_; (with_reducible refine (e_Where.calls kj7 _ _ l0 a3 a4 t723 t724 _ ?side1 ?side2 A13.out).mono ?_); (case side1 => repeat (exact (Kd.C_below HR0.out HB.out))); (case side2 => exact HC0.out); rintro e w16 ⟨v725, rfl, ho0, hb⟩; refine ⟨_, rfl, ?_⟩; have n0_ := Ak (Kd.R_lower ho0 (below_size (by exact HB.out))); have n1_ := Ak (below_step (by exact HB.out) hb); clear HB; have HO726 := n0_; have HB := n1_; clear n0_ n1_; (try clear hb); (try clear ho0)) | ((with_reducible refine gate_callee (f := 41) rfl ?_); refine goesL_ (some 56) rfl rfl Try.func41 (by kernel_rfl) rfl #[.slice A0 l0.length c0, .int .i64 a3, .int .i64 a4] rfl (by (try simp only [lm]); rfl) ?_; (with_reducible refine (q_Where.calls kj7 _ _ l0 a3 a4 t727 t728 _ ?side1 ?side2 A14.out).mono ?_); (case side1 => repeat (exact (Kd.C_below HR0.out HB.out))); (case side2 => exact HC0.out); rintro e w17 ⟨v729, rfl, ho0, hb⟩; refine ⟨_, rfl, ?_⟩; have n0_ := Ak (Kd.R_elder' (by exact HO726.out) (Kd.R_base ho0) hb); have n1_ := Ak (Kd.R_lower (Kd.R_new' ho0 (Kd.R_lt (by exact HO726.out))) (below_size (by exact HB.out))); have n2_ := Ak (below_step (by exact HB.out) hb); clear HO726 HB; have HO726 := n0_; have HO730 := n1_; have HB := n2_; clear n0_ n1_ n2_; (try clear hb); (try clear ho0)))
    (try simp only [Act.put, List.setIfInBounds_toArray, List.set_cons_zero, List.set_cons_succ])
    go_cut [67] (fun v67 wc => ∃ (kq : Nat) (x67_14 : Bool), v67 = .bool x67_14 ∧ Aside0 (lw.j1 kq l0 l1 x67_14 = some r) ∧ Aside0 (kq ≤ kj7) ∧ Aside0 (Below w.heap.size w wc))
    case first =>
     have H := HC15.out
     clear HC15
     by_cases c18 : t724 = t728
     ·rw [if_pos c18] at H
      have c18b0 : (t724 == t728) = true := beq_iff_eq.mpr c18
      have c18b1 : (t724 != t728) = false := bne_eq_false_iff_eq.mpr c18
      clear c18
      (skip)
      (try rw [c18b1])
      replace H := Option.bind_eq_some_iff.mp H
      obtain ⟨t731, A190, H⟩ := H
      replace H : (lw.j1 kj7 l0 l1 (!t731)) = some r := H
      have A19 := Ak A190
      clear A190
      have H' := Ak H
      clear H
      obtain ⟨Ao20, co20, eo20⟩ := Kd.R_slice HO726.out
      subst eo20
      obtain ⟨Ao21, co21, eo21⟩ := Kd.R_slice HO730.out
      subst eo21
      go_wp2_with (first | (go_at_call 22; (with_reducible refine (s_Equal.calls kj7 _ _ t723 _ _ t727 t731 _ ?side1 ?side2 ?side3 ?side4 A19.out).mono ?_); (case side1 => repeat (exact (Kd.R_reads' HO726.out).2.2)); (case side2 => exact (Kd.R_reads' HO726.out).2.1); (case side3 => repeat (exact (Kd.R_reads' HO730.out).2.2)); (case side4 => exact (Kd.R_reads' HO730.out).2.1); rintro e w' ⟨rfl, ⟨nd, rfl⟩⟩))
      go_meet
      case rel => exact ⟨_, (!t731), (by rfl), H', ⟨by have := HJ7.out; omega⟩, ⟨by repeat ((with_reducible first | exact HB.out | apply pw_below_drewN))⟩⟩
     ·rw [if_neg c18] at H
      have c18b0 : (t724 == t728) = false := beq_eq_false_iff_ne.mpr c18
      have c18b1 : (t724 != t728) = true := bne_iff_ne.mpr c18
      (skip)
      (try rw [c18b1])
      have H' := Ak H
      clear H
      go_wp2
      go_meet
      case rel => exact ⟨_, (true), (by rfl), H', ⟨by have := HJ7.out; omega⟩, ⟨by exact HB.out⟩⟩
    case rest =>
     clear HC15
     obtain ⟨kq, x67_14, rfl, HA, HJ14, HB⟩ := hcut
     cases kq with
     | zero => exact absurd HA.out (by simp [lw.j1])
     | succ kj14 =>
      have H := HA.out
      clear HA
      simp only [lw.j1] at H
      by_cases c22 : x67_14 = true
      ·subst c22
       replace H : (some false) = some r := by rw [if_pos rfl] at H; exact H
       obtain rfl := Option.some.inj H
       go_wp2
       go_ret
       exact ⟨by rfl, by exact HB.out⟩
      ·replace c22 := Bool.eq_false_iff.mpr c22
       subst c22
       replace H : ((e_Least.f kj14 l0).bind fun bt732 => ((q_Least.f kj14 l0).bind fun bt736 => (if bt732.2.2.2 = bt736.2.2.2 then (if bt732.1 = bt736.1 then (if bt732.2.1 = bt736.2.1 then (lw.j2 kj14 l0 l1 (bt732.2.2.1 != bt736.2.2.1)) else (lw.j2 kj14 l0 l1 true)) else (lw.j2 kj14 l0 l1 true)) else (lw.j2 kj14 l0 l1 true)))) = some r := by rw [if_neg (show ¬ (false = true) by decide)] at H; exact H
       replace H := Option.bind_eq_some_iff.mp H
       obtain ⟨⟨t732, t733, t734, t735⟩, A230, H⟩ := H
       replace H : ((q_Least.f kj14 l0).bind fun bt736 => (if t735 = bt736.2.2.2 then (if t732 = bt736.1 then (if t733 = bt736.2.1 then (lw.j2 kj14 l0 l1 (t734 != bt736.2.2.1)) else (lw.j2 kj14 l0 l1 true)) else (lw.j2 kj14 l0 l1 true)) else (lw.j2 kj14 l0 l1 true))) = some r := H
       have A23 := Ak A230
       clear A230
       replace H := Option.bind_eq_some_iff.mp H
       obtain ⟨⟨t736, t737, t738, t739⟩, A240, H⟩ := H
       replace H : (if t735 = t739 then (if t732 = t736 then (if t733 = t737 then (lw.j2 kj14 l0 l1 (t734 != t738)) else (lw.j2 kj14 l0 l1 true)) else (lw.j2 kj14 l0 l1 true)) else (lw.j2 kj14 l0 l1 true)) = some r := H
       have A24 := Ak A240
       clear A240
       have HC25 := Ak H
       clear H
       go_upto_region 11 with (first | ((with_reducible refine gate_callee (f := 29) rfl ?_); refine goesL_ (some 70) rfl rfl Try.func29 (by kernel_rfl) rfl #[.slice A0 l0.length c0] rfl (by (try simp only [lm]); rfl) ?_; (with_reducible refine (e_Least.calls kj14 _ _ l0 t732 t733 t734 t735 _ ?side1 ?side2 A23.out).mono ?_); (case side1 => repeat (exact (Kd.C_below HR0.out HB.out))); (case side2 => exact HC0.out); rintro e w26 ⟨rfl, hb⟩; refine ⟨_, rfl, ?_⟩; have n0_ := Ak (below_step (by exact HB.out) hb); clear HB; have HB := n0_; clear n0_; (try clear hb); (try clear hi)) | ((with_reducible refine gate_callee (f := 42) rfl ?_); refine goesL_ (some 77) rfl rfl Try.func42 (by kernel_rfl) rfl #[.slice A0 l0.length c0] rfl (by (try simp only [lm]); rfl) ?_; (with_reducible refine (q_Least.calls kj14 _ _ l0 t736 t737 t738 t739 _ ?side1 ?side2 A24.out).mono ?_); (case side1 => repeat (exact (Kd.C_below HR0.out HB.out))); (case side2 => exact HC0.out); rintro e w27 ⟨rfl, hb⟩; refine ⟨_, rfl, ?_⟩; have n0_ := Ak (below_step (by exact HB.out) hb); clear HB; have HB := n0_; clear n0_; (try clear hb); (try clear hi)))
       (try simp only [Act.put, List.setIfInBounds_toArray, List.set_cons_zero, List.set_cons_succ])
       go_cut [99] (fun v99 wc => ∃ (kq : Nat) (x99_24 : Bool), v99 = .bool x99_24 ∧ Aside0 (lw.j2 kq l0 l1 x99_24 = some r) ∧ Aside0 (kq ≤ kj14) ∧ Aside0 (Below w.heap.size w wc))
       case first =>
        have H := HC25.out
        clear HC25
        by_cases c28 : t735 = t739
        ·rw [if_pos c28] at H
         have c28b0 : (t735 == t739) = true := beq_iff_eq.mpr c28
         have c28b1 : (t735 != t739) = false := bne_eq_false_iff_eq.mpr c28
         clear c28
         (skip)
         (try rw [c28b1])
         by_cases c29 : t732 = t736
         ·rw [if_pos c29] at H
          have c29b0 : (t732 == t736) = true := beq_iff_eq.mpr c29
          have c29b1 : (t732 != t736) = false := bne_eq_false_iff_eq.mpr c29
          clear c29
          by_cases c30 : t733 = t737
          ·rw [if_pos c30] at H
           have c30b0 : (t733 == t737) = true := beq_iff_eq.mpr c30
           have c30b1 : (t733 != t737) = false := bne_eq_false_iff_eq.mpr c30
           clear c30
           have H' := Ak H
           clear H
           go_wp2
           go_meet
           case rel => exact ⟨_, ((t734 != t738)), (by rfl), H', ⟨by have := HJ7.out; have := HJ14.out; omega⟩, ⟨by exact HB.out⟩⟩
          ·rw [if_neg c30] at H
           have c30b0 : (t733 == t737) = false := beq_eq_false_iff_ne.mpr c30
           have c30b1 : (t733 != t737) = true := bne_iff_ne.mpr c30
           have H' := Ak H
           clear H
           go_wp2
           go_meet
           case rel => exact ⟨_, (true), (by rfl), H', ⟨by have := HJ7.out; have := HJ14.out; omega⟩, ⟨by exact HB.out⟩⟩
         ·rw [if_neg c29] at H
          have c29b0 : (t732 == t736) = false := beq_eq_false_iff_ne.mpr c29
          have c29b1 : (t732 != t736) = true := bne_iff_ne.mpr c29
          have H' := Ak H
          clear H
          go_wp2
          go_meet
          case rel => exact ⟨_, (true), (by rfl), H', ⟨by have := HJ7.out; have := HJ14.out; omega⟩, ⟨by exact HB.out⟩⟩
        ·rw [if_neg c28] at H
         have c28b0 : (t735 == t739) = false := beq_eq_false_iff_ne.mpr c28
         have c28b1 : (t735 != t739) = true := bne_iff_ne.mpr c28
         (skip)
         (try rw [c28b1])
         have H' := Ak H
         clear H
         go_wp2
         go_meet
         case rel => exact ⟨_, (true), (by rfl), H', ⟨by have := HJ7.out; have := HJ14.out; omega⟩, ⟨by exact HB.out⟩⟩
       case rest =>
        clear HC25
        obtain ⟨kq, x99_24, rfl, HA, HJ24, HB⟩ := hcut
        cases kq with
        | zero => exact absurd HA.out (by simp [lw.j2])
        | succ kj24 =>
         have H := HA.out
         clear HA
         simp only [lw.j2] at H
         by_cases c31 : x99_24 = true
         ·subst c31
          replace H : (some false) = some r := by rw [if_pos rfl] at H; exact H
          obtain rfl := Option.some.inj H
          go_wp2
          go_ret
          exact ⟨by rfl, by exact HB.out⟩
         ·replace c31 := Bool.eq_false_iff.mpr c31
          subst c31
          replace H : ((e_Joined.f kj24 l0 l1).bind fun bt740 => ((q_Joined.f kj24 l0 l1).bind fun bt744 => (if bt740.2 = bt744.2 then ((s_Equalb.f kj24 bt740.1 bt744.1).bind fun t748 => (if t748 = true then ((peristylelaw2_awake.f kj24).bind fun t749 => (some t749)) else (some false))) else (some false)))) = some r := by rw [if_neg (show ¬ (false = true) by decide)] at H; exact H
          replace H := Option.bind_eq_some_iff.mp H
          obtain ⟨⟨t740, t741⟩, A320, H⟩ := H
          replace H : ((q_Joined.f kj24 l0 l1).bind fun bt744 => (if t741 = bt744.2 then ((s_Equalb.f kj24 t740 bt744.1).bind fun t748 => (if t748 = true then ((peristylelaw2_awake.f kj24).bind fun t749 => (some t749)) else (some false))) else (some false))) = some r := H
          have A32 := Ak A320
          clear A320
          replace H := Option.bind_eq_some_iff.mp H
          obtain ⟨⟨t744, t745⟩, A330, H⟩ := H
          replace H : (if t741 = t745 then ((s_Equalb.f kj24 t740 t744).bind fun t748 => (if t748 = true then ((peristylelaw2_awake.f kj24).bind fun t749 => (some t749)) else (some false))) else (some false)) = some r := H
          have A33 := Ak A330
          clear A330
          by_cases c34 : t741 = t745
          ·rw [if_pos c34] at H
           have c34b0 : (t741 == t745) = true := beq_iff_eq.mpr c34
           have c34b1 : (t741 != t745) = false := bne_eq_false_iff_eq.mpr c34
           clear c34
           replace H := Option.bind_eq_some_iff.mp H
           obtain ⟨t748, A350, H⟩ := H
           replace H : (if t748 = true then ((peristylelaw2_awake.f kj24).bind fun t749 => (some t749)) else (some false)) = some r := H
           have A35 := Ak A350
           clear A350
           by_cases c36 : t748 = true
           ·subst c36
            replace H : ((peristylelaw2_awake.f kj24).bind fun t749 => (some t749)) = some r := by rw [if_pos rfl] at H; exact H
            replace H := Option.bind_eq_some_iff.mp H
            obtain ⟨t749, A370, H⟩ := H
            replace H : (some t749) = some r := H
            have A37 := Ak A370
            clear A370
            obtain rfl := Option.some.inj H
            go_wp2_with (first | ((with_reducible refine gate_callee (f := 33) rfl ?_); refine goesL_ (some 103) rfl rfl Try.func33 (by kernel_rfl) rfl #[.slice A0 l0.length c0, .slice A1 l1.length c1] rfl (by (try simp only [lm]); rfl) ?_; (with_reducible refine (e_Joined.calls kj24 _ _ l0 _ _ l1 t740 t741 _ ?side1 ?side2 ?side3 ?side4 A32.out).mono ?_); (case side1 => repeat (exact (Kd.C_below HR0.out HB.out))); (case side2 => exact HC0.out); (case side3 => repeat (exact (Kd.C_below HR1.out HB.out))); (case side4 => exact HC1.out); rintro e w38 ⟨v742, rfl, ho0, hb⟩; refine ⟨_, rfl, ?_⟩; have n0_ := Ak (Kd.R_lower ho0 (below_size (by exact HB.out))); have n1_ := Ak (below_step (by exact HB.out) hb); clear HB; have HO743 := n0_; have HB := n1_; clear n0_ n1_; (try clear hb); (try clear ho0)) | ((with_reducible refine gate_callee (f := 43) rfl ?_); refine goesL_ (some 109) rfl rfl Try.func43 (by kernel_rfl) rfl #[.slice A0 l0.length c0, .slice A1 l1.length c1] rfl (by (try simp only [lm]); rfl) ?_; (with_reducible refine (q_Joined.calls kj24 _ _ l0 _ _ l1 t744 t745 _ ?side1 ?side2 ?side3 ?side4 A33.out).mono ?_); (case side1 => repeat (exact (Kd.C_below HR0.out HB.out))); (case side2 => exact HC0.out); (case side3 => repeat (exact (Kd.C_below HR1.out HB.out))); (case side4 => exact HC1.out); rintro e w39 ⟨v746, rfl, ho0, hb⟩; refine ⟨_, rfl, ?_⟩; have n0_ := Ak (Kd.R_elder' (by exact HO743.out) (Kd.R_base ho0) hb); have n1_ := Ak (Kd.R_lower (Kd.R_new' ho0 (Kd.R_lt (by exact HO743.out))) (below_size (by exact HB.out))); have n2_ := Ak (below_step (by exact HB.out) hb); clear HO743 HB; have HO743 := n0_; have HO747 := n1_; have HB := n2_; clear n0_ n1_ n2_; (try clear hb); (try clear ho0); obtain ⟨Ao40, co40, eo40⟩ := Kd.R_slice HO743.out; subst eo40; obtain ⟨Ao41, co41, eo41⟩ := Kd.R_slice HO747.out; subst eo41) | (go_at_call 17; (with_reducible refine (s_Equalb.calls kj24 _ _ t740 _ _ t744 true _ ?side1 ?side2 ?side3 ?side4 A35.out).mono ?_); (case side1 => repeat (exact (Kd.R_reads' HO743.out).2.2)); (case side2 => exact (Kd.R_reads' HO743.out).2.1); (case side3 => repeat (exact (Kd.R_reads' HO747.out).2.2)); (case side4 => exact (Kd.R_reads' HO747.out).2.1); rintro e w' ⟨rfl, ⟨nd, rfl⟩⟩) | (go_at_call 13; (with_reducible refine (peristylelaw2_awake.calls kj24  t749 _ A37.out).mono ?_); rintro e w42 ⟨rfl, hb⟩; have n0_ := Ak (Kd.R_below (by (with_reducible repeat (apply Kd.R_drewN)); exact HO743.out) hb); have n1_ := Ak (Kd.R_below (by (with_reducible repeat (apply Kd.R_drewN)); exact HO747.out) hb); have n2_ := Ak (below_step (by repeat ((with_reducible first | exact HB.out | apply pw_below_drewN))) hb); clear HO743 HO747 HB; have HO743 := n0_; have HO747 := n1_; have HB := n2_; clear n0_ n1_ n2_; (try clear hb); (try clear hi)))
            go_ret
            exact ⟨by rfl, by exact HB.out⟩
           ·replace c36 := Bool.eq_false_iff.mpr c36
            subst c36
            replace H : (some false) = some r := by rw [if_neg (show ¬ (false = true) by decide)] at H; exact H
            obtain rfl := Option.some.inj H
            go_wp2_with (first | ((with_reducible refine gate_callee (f := 33) rfl ?_); refine goesL_ (some 103) rfl rfl Try.func33 (by kernel_rfl) rfl #[.slice A0 l0.length c0, .slice A1 l1.length c1] rfl (by (try simp only [lm]); rfl) ?_; (with_reducible refine (e_Joined.calls kj24 _ _ l0 _ _ l1 t740 t741 _ ?side1 ?side2 ?side3 ?side4 A32.out).mono ?_); (case side1 => repeat (exact (Kd.C_below HR0.out HB.out))); (case side2 => exact HC0.out); (case side3 => repeat (exact (Kd.C_below HR1.out HB.out))); (case side4 => exact HC1.out); rintro e w43 ⟨v742, rfl, ho0, hb⟩; refine ⟨_, rfl, ?_⟩; have n0_ := Ak (Kd.R_lower ho0 (below_size (by exact HB.out))); have n1_ := Ak (below_step (by exact HB.out) hb); clear HB; have HO743 := n0_; have HB := n1_; clear n0_ n1_; (try clear hb); (try clear ho0)) | ((with_reducible refine gate_callee (f := 43) rfl ?_); refine goesL_ (some 109) rfl rfl Try.func43 (by kernel_rfl) rfl #[.slice A0 l0.length c0, .slice A1 l1.length c1] rfl (by (try simp only [lm]); rfl) ?_; (with_reducible refine (q_Joined.calls kj24 _ _ l0 _ _ l1 t744 t745 _ ?side1 ?side2 ?side3 ?side4 A33.out).mono ?_); (case side1 => repeat (exact (Kd.C_below HR0.out HB.out))); (case side2 => exact HC0.out); (case side3 => repeat (exact (Kd.C_below HR1.out HB.out))); (case side4 => exact HC1.out); rintro e w44 ⟨v746, rfl, ho0, hb⟩; refine ⟨_, rfl, ?_⟩; have n0_ := Ak (Kd.R_elder' (by exact HO743.out) (Kd.R_base ho0) hb); have n1_ := Ak (Kd.R_lower (Kd.R_new' ho0 (Kd.R_lt (by exact HO743.out))) (below_size (by exact HB.out))); have n2_ := Ak (below_step (by exact HB.out) hb); clear HO743 HB; have HO743 := n0_; have HO747 := n1_; have HB := n2_; clear n0_ n1_ n2_; (try clear hb); (try clear ho0); obtain ⟨Ao45, co45, eo45⟩ := Kd.R_slice HO743.out; subst eo45; obtain ⟨Ao46, co46, eo46⟩ := Kd.R_slice HO747.out; subst eo46) | (go_at_call 17; (with_reducible refine (s_Equalb.calls kj24 _ _ t740 _ _ t744 false _ ?side1 ?side2 ?side3 ?side4 A35.out).mono ?_); (case side1 => repeat (exact (Kd.R_reads' HO743.out).2.2)); (case side2 => exact (Kd.R_reads' HO743.out).2.1); (case side3 => repeat (exact (Kd.R_reads' HO747.out).2.2)); (case side4 => exact (Kd.R_reads' HO747.out).2.1); rintro e w' ⟨rfl, ⟨nd, rfl⟩⟩))
            go_ret
            exact ⟨by rfl, by repeat ((with_reducible first | exact HB.out | apply pw_below_drewN))⟩
          ·rw [if_neg c34] at H
           have c34b0 : (t741 == t745) = false := beq_eq_false_iff_ne.mpr c34
           have c34b1 : (t741 != t745) = true := bne_iff_ne.mpr c34
           obtain rfl := Option.some.inj H
           go_wp2_with (first | ((with_reducible refine gate_callee (f := 33) rfl ?_); refine goesL_ (some 103) rfl rfl Try.func33 (by kernel_rfl) rfl #[.slice A0 l0.length c0, .slice A1 l1.length c1] rfl (by (try simp only [lm]); rfl) ?_; (with_reducible refine (e_Joined.calls kj24 _ _ l0 _ _ l1 t740 t741 _ ?side1 ?side2 ?side3 ?side4 A32.out).mono ?_); (case side1 => repeat (exact (Kd.C_below HR0.out HB.out))); (case side2 => exact HC0.out); (case side3 => repeat (exact (Kd.C_below HR1.out HB.out))); (case side4 => exact HC1.out); rintro e w47 ⟨v742, rfl, ho0, hb⟩; refine ⟨_, rfl, ?_⟩; have n0_ := Ak (Kd.R_lower ho0 (below_size (by exact HB.out))); have n1_ := Ak (below_step (by exact HB.out) hb); clear HB; have HO743 := n0_; have HB := n1_; clear n0_ n1_; (try clear hb); (try clear ho0)) | ((with_reducible refine gate_callee (f := 43) rfl ?_); refine goesL_ (some 109) rfl rfl Try.func43 (by kernel_rfl) rfl #[.slice A0 l0.length c0, .slice A1 l1.length c1] rfl (by (try simp only [lm]); rfl) ?_; (with_reducible refine (q_Joined.calls kj24 _ _ l0 _ _ l1 t744 t745 _ ?side1 ?side2 ?side3 ?side4 A33.out).mono ?_); (case side1 => repeat (exact (Kd.C_below HR0.out HB.out))); (case side2 => exact HC0.out); (case side3 => repeat (exact (Kd.C_below HR1.out HB.out))); (case side4 => exact HC1.out); rintro e w48 ⟨v746, rfl, ho0, hb⟩; refine ⟨_, rfl, ?_⟩; have n0_ := Ak (Kd.R_elder' (by exact HO743.out) (Kd.R_base ho0) hb); have n1_ := Ak (Kd.R_lower (Kd.R_new' ho0 (Kd.R_lt (by exact HO743.out))) (below_size (by exact HB.out))); have n2_ := Ak (below_step (by exact HB.out) hb); clear HO743 HB; have HO743 := n0_; have HO747 := n1_; have HB := n2_; clear n0_ n1_ n2_; (try clear hb); (try clear ho0)))
           go_ret
           exact ⟨by rfl, by exact HB.out⟩
end Go.Proofs.Ythhdihnaicggiaa.K
