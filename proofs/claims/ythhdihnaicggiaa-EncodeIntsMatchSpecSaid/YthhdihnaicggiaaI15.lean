/- Printed by a program of this session (wip/tools/printh.py over the kit's printer): Lean functions that answer as the Go functions do, with the proofs of it. No conditions beyond those in each theorem. -/
import Derived.Test.YthhdihnaicggiaaI0
import Derived.Test.YthhdihnaicggiaaI13
namespace Go.Proofs.Ythhdihnaicggiaa.I
open Go.RowKit Go.Proofs.YthhdihnaicggiaaW.PrintWords Go.Proofs.YthhdihnaicggiaaW.PrintLast Go.Proofs.YthhdihnaicggiaaW.PrintMore
attribute [local go_sem] max2_int min2_int max_two min_two max_three min_three max_four min_four   -- for this text's walks alone
set_option linter.unusedVariables false
set_option linter.unusedSimpArgs false

/-! ### peristyleref2_reader_unpacked: function 89 -/
mutual
def peristyleref2_reader_unpacked.j0 : Nat → Int → Int → Bool → List Int → Bool → Option (List Int × List Int × Bool)
 | 0, _, _, _, _, _ => none
 | k + 1, x1, x2, x24, x1000, x1001 => if x24 = true then (some (([] : List Int), x1000, true)) else (if 0 ≤ x1 then (if (x1 : Int).toNat ≤ 35184372088832 then ((some (List.replicate (x1 : Int).toNat 0 : List Int)).bind fun y542 => (peristyleref2_reader_unpacked.l0 k x1 x2 y542 0 (y542.length : Int) 0 x1000 x1001)) else (none)) else (none))
def peristyleref2_reader_unpacked.l0 : Nat → Int → Int → List Int → Int → Int → Int → List Int → Bool → Option (List Int × List Int × Bool)
 | 0, _, _, _, _, _, _, _, _ => none
 | k + 1, x1, x2, x7, x8, x31, x32, x1000, x1001 => if x32 < x31 then (peristyleref2_reader_unpacked.l1 k x1 x2 x7 x8 x32 x31 x32 x2 0 x1000 x1001) else (if 0 ≤ (wrap64 (Int.tdiv (wrap64 ((wrap64 (x1 * x2)) + 7)) 8)) then (if (wrap64 (Int.tdiv (wrap64 ((wrap64 (x1 * x2)) + 7)) 8)) ≤ (x1000.length : Int) then (some (x7, x1000.drop ((wrap64 (Int.tdiv (wrap64 ((wrap64 (x1 * x2)) + 7)) 8)) : Int).toNat, x1001)) else (none)) else (none))
def peristyleref2_reader_unpacked.l1 : Nat → Int → Int → List Int → Int → Int → Int → Int → Int → Int → List Int → Bool → Option (List Int × List Int × Bool)
 | 0, _, _, _, _, _, _, _, _, _, _, _ => none
 | k + 1, x1, x2, x7, x8, x9, x31, x32, x35, x36, x1000, x1001 => if x36 < x35 then (if 0 ≤ x9 then (if x9 < (x7.length : Int) then (if 0 ≤ (wrap64 (Int.tdiv x8 8)) then (if (wrap64 (Int.tdiv x8 8)) < (x1000.length : Int) then (if 0 ≤ (wrap64 (7 - (Int.tmod x8 8))) then (peristyleref2_reader_unpacked.l1 k x1 x2 (x7.set (x9 : Int).toNat (Go.bits .or .i64 (wrap64 ((rd x7 x9) * 2)) (wrap64 (Go.bits .and .u8 (shr .u8 (rd x1000 (wrap64 (Int.tdiv x8 8))) (wrap64 (7 - (Int.tmod x8 8)))) 1)))) (wrap64 (x8 + 1)) x9 x31 x32 x35 (wrap64 (x36 + 1)) x1000 x1001) else (none)) else (none)) else (none)) else (none)) else (none)) else (peristyleref2_reader_unpacked.l0 k x1 x2 x7 x8 x31 (wrap64 (x32 + 1)) x1000 x1001)
end
def peristyleref2_reader_unpacked.f (k : Nat) (s0_0 : List Int) (s0_1 : Bool) (a1 : Int) (a2 : Int) : Option (List Int × List Int × Bool) := if a2 > 60 then (peristyleref2_reader_unpacked.j0 k a1 a2 true s0_0 s0_1) else (peristyleref2_reader_unpacked.j0 k a1 a2 (decide ((wrap64 (Int.tdiv (wrap64 ((wrap64 (a1 * a2)) + 7)) 8)) > (s0_0.length : Int))) s0_0 s0_1)
theorem peristyleref2_reader_unpacked.mono_l : ∀ k, (∀ y0 y1 y2 y3 y4, LeO (peristyleref2_reader_unpacked.j0 k y0 y1 y2 y3 y4) (peristyleref2_reader_unpacked.j0 (k + 1) y0 y1 y2 y3 y4)) ∧ (∀ y0 y1 y2 y3 y4 y5 y6 y7, LeO (peristyleref2_reader_unpacked.l0 k y0 y1 y2 y3 y4 y5 y6 y7) (peristyleref2_reader_unpacked.l0 (k + 1) y0 y1 y2 y3 y4 y5 y6 y7)) ∧ (∀ y0 y1 y2 y3 y4 y5 y6 y7 y8 y9 y10, LeO (peristyleref2_reader_unpacked.l1 k y0 y1 y2 y3 y4 y5 y6 y7 y8 y9 y10) (peristyleref2_reader_unpacked.l1 (k + 1) y0 y1 y2 y3 y4 y5 y6 y7 y8 y9 y10))
 | 0 => ⟨fun _ _ _ _ _ r h => by simp [peristyleref2_reader_unpacked.j0] at h, fun _ _ _ _ _ _ _ _ r h => by simp [peristyleref2_reader_unpacked.l0] at h, fun _ _ _ _ _ _ _ _ _ _ _ r h => by simp [peristyleref2_reader_unpacked.l1] at h⟩
 | k + 1 => by
  obtain ⟨ih0, ih1, ih2⟩ := peristyleref2_reader_unpacked.mono_l k
  refine ⟨?_, ?_, ?_⟩ <;> intros
  all_goals (first | unfold peristyleref2_reader_unpacked.j0 | unfold peristyleref2_reader_unpacked.l0 | unfold peristyleref2_reader_unpacked.l1)
  all_goals
   repeat' first
   | (with_reducible exact ih1 _ _ _ _ _ _ _ _)
   | (with_reducible exact ih2 _ _ _ _ _ _ _ _ _ _ _)
   | (with_reducible exact LeO.refl _)
   | (with_reducible refine LeO.ite ?_ ?_)
   | (with_reducible refine LeO.bind ?_ (fun _ => ?_))
theorem peristyleref2_reader_unpacked.mono : ∀ a0 a1 a2 a3 k, LeO (peristyleref2_reader_unpacked.f k a0 a1 a2 a3) (peristyleref2_reader_unpacked.f (k + 1) a0 a1 a2 a3) := by
 intro a0 a1 a2 a3 k
 obtain ⟨ih0, ih1, ih2⟩ := peristyleref2_reader_unpacked.mono_l k
 unfold peristyleref2_reader_unpacked.f
 repeat' first
  | (with_reducible exact ih0 _ _ _ _ _)
  | (with_reducible refine LeO.ite ?_ ?_)
def peristyleref2_reader_unpacked.T11 : Bool × List (List Nat × List Nat) := (true, [([], []), ([], []), ([], []), ([], []), ([2, 3], [2, 3]), ([4], [4]), ([5], [5]), ([], []), ([7], [7]), ([8], [8]), ([9], [9]), ([], []), ([11], [11]), ([10, 12], [10, 12]), ([13], [13]), ([], []), ([15], [15]), ([16], [16]), ([14, 17], [14, 17]), ([18], [18]), ([19], [19]), ([6, 20], [6, 20]), ([0, 1, 0, 1, 2, 3, 4, 5, 6, 7, 8, 9, 10, 11, 12, 13, 14, 15, 16, 17, 18, 19, 20, 21], [0, 1]), ([22, 21, 0, 1, 2, 3, 4, 5, 6, 7, 8, 9, 10, 11, 12, 13, 14, 15, 16, 17, 18, 19, 20, 21], [21, 22])])
def peristyleref2_reader_unpacked.B11 : List Nat := [0, 0, 0, 0, 12, 28, 60, 0, 128, 384, 896, 0, 2048, 8064, 16256, 0, 32768, 98304, 262016, 524160, 1048448, 2097148, 4194303, 8388607]
theorem peristyleref2_reader_unpacked.tab11 : rtab .any (opsOf Try.f89 11) = peristyleref2_reader_unpacked.T11 := by kernel_rfl
theorem peristyleref2_reader_unpacked.bits11 : waitsOk peristyleref2_reader_unpacked.T11.2 peristyleref2_reader_unpacked.B11 = true := by kernel_rfl
set_option maxHeartbeats 8000000 in
set_option maxRecDepth 100000 in
theorem peristyleref2_reader_unpacked.calls (k : Nat) (g : Nat) (s0_0 : List Int) (s0_1 : Bool) (a1 : Int) (a2 : Int) (r1 : List Int) (r2 : List Int) (r3 : Bool) (w0 w : World) (hI : IsS75 w0 w g s0_0 s0_1) (hB : Below w0.heap.size w0 w) (h : peristyleref2_reader_unpacked.f k s0_0 s0_1 a1 a2 = some (r1, r2, r3)) :
 Calls Try.prog 89 #[.pointer (some ⟨g, 0, none⟩), .int .i64 a1, .int .i64 a2] w fun e w' => ∃ v0_ : Value, e = .returned (v0_) ∧ Kd.R (Kd.int .i64) 3 w' w.heap.size (fun _ => True) v0_ r1 ∧ IsS75 w0 w' g r2 r3 ∧ Below w0.heap.size w0 w' ∧ KeepBut w w' g none := by
 have HI0 := Aside0.mk hI
 have HK := Aside0.mk (KeepBut.refl w g none)
 have HL := Aside0.mk hB.size
 clear hI
 have HW0 := Aside0.mk hB.size
 have HB := Aside0.mk hB
 have HBZ := Aside0.mk hB
 clear hB
 have H : (if a2 > 60 then (peristyleref2_reader_unpacked.j0 k a1 a2 true s0_0 s0_1) else (peristyleref2_reader_unpacked.j0 k a1 a2 (decide ((wrap64 (Int.tdiv (wrap64 ((wrap64 (a1 * a2)) + 7)) 8)) > (s0_0.length : Int))) s0_0 s0_1)) = some (r1, r2, r3) := h
 clear h
 have HC4 := Aside0.mk H
 clear H
 go_enter Try.func89, Try.ntmps89
 go_upto_region 1 with (fail)
 go_cut [24] (fun v24 wc => ∃ (kq : Nat) (x24_3 : Bool), v24 = .bool x24_3 ∧ Aside0 (peristyleref2_reader_unpacked.j0 kq a1 a2 x24_3 s0_0 s0_1 = some (r1, r2, r3)) ∧ Aside0 (kq ≤ k) ∧ Aside0 (IsS75 w0 wc g s0_0 s0_1) ∧ Aside0 (KeepBut w wc g none) ∧ Aside0 (Below w0.heap.size w0 wc))
 case first =>
  have H := HC4.out
  clear HC4
  by_cases c5 : a2 > 60
  ·rw [if_pos c5] at H
   have c5b0 : decide (60 < a2) = true := decide_eq_true c5
   clear c5
   (skip)
   (try rw [c5b1])
   have H' := Aside0.mk H
   clear H
   go_wp2
   go_meet
   case rel => exact ⟨_, (true), (by rfl), H', ⟨by omega⟩, ⟨by exact HI0.out⟩, ⟨by exact HK.out⟩, ⟨by exact HB.out⟩⟩
  ·rw [if_neg c5] at H
   have c5b0 : decide (60 < a2) = false := decide_eq_false c5
   clear c5
   (skip)
   (try rw [c5b1])
   have H' := Aside0.mk H
   clear H
   obtain ⟨ASz6_0, cSz6_0, HGz6, hgz6, HSz6_0⟩ := HI0.out
   have hcz6_0 := cellS75_0 HGz6
   have hcz6_1 := cellS75_1 HGz6
   have hfz6_0 := blk_frozen HGz6 0
   have hfz6_1 := blk_frozen HGz6 1
   have HCSz6_0 := HSz6_0.1
   replace HSz6_0 := HSz6_0.2
   clear HGz6 hgz6
   go_wp2
   go_meet
   case rel => exact ⟨_, (decide ((wrap64 (Int.tdiv (wrap64 ((wrap64 (a1 * a2)) + 7)) 8)) > (s0_0.length : Int))), (by rfl), H', ⟨by omega⟩, ⟨by exact HI0.out⟩, ⟨by exact HK.out⟩, ⟨by exact HB.out⟩⟩
 case rest =>
  clear HC4
  obtain ⟨kq, x24_3, rfl, HA, HJ3, HI0, HK, HB⟩ := hcut
  cases kq with
  | zero => exact absurd HA.out (by simp [peristyleref2_reader_unpacked.j0])
  | succ kj3 =>
   have H := HA.out
   clear HA
   simp only [peristyleref2_reader_unpacked.j0] at H
   by_cases c7 : x24_3 = true
   ·subst c7
    have H1 : (some (([] : List Int), s0_0, true)) = some (r1, r2, r3) := by rw [if_pos rfl] at H; exact H
    clear H
    have H := H1
    clear H1
    simp only [Option.some.injEq, Prod.mk.injEq] at H
    obtain ⟨rfl, rfl, rfl⟩ := H
    obtain ⟨ASz8_0, cSz8_0, HGz8, hgz8, HSz8_0⟩ := HI0.out
    have hcz8_0 := cellS75_0 HGz8
    have hcz8_1 := cellS75_1 HGz8
    have hfz8_0 := blk_frozen HGz8 0
    have hfz8_1 := blk_frozen HGz8 1
    have HCSz8_0 := HSz8_0.1
    replace HSz8_0 := HSz8_0.2
    clear HGz8 hgz8
    go_wp2
    go_ret
    exact ⟨_, by rfl, by exact Kd.R_nil _ _ _ _ _, by repeat ((with_reducible first | exact HI0.out | apply IsS75.set_1)), by repeat ((with_reducible first | exact HB.out | refine below_set ?_ (IsS75.ge HI0.out))), by repeat ((with_reducible first | exact HK.out | apply KeepBut.set_ ))⟩
   ·replace c7 := Bool.eq_false_iff.mpr c7
    subst c7
    have H1 : (if 0 ≤ a1 then (if (a1 : Int).toNat ≤ 35184372088832 then ((some (List.replicate (a1 : Int).toNat 0 : List Int)).bind fun y542 => (peristyleref2_reader_unpacked.l0 kj3 a1 a2 y542 0 (y542.length : Int) 0 s0_0 s0_1)) else (none)) else (none)) = some (r1, r2, r3) := by rw [if_neg (show ¬ (false = true) by decide)] at H; exact H
    clear H
    have H := H1
    clear H1
    by_cases c9 : 0 ≤ a1
    ·rw [if_pos c9] at H
     have c9b0 := eq_true c9
     have c9b1 : decide (0 ≤ a1) = true := decide_eq_true c9
     clear c9
     by_cases c10 : (a1 : Int).toNat ≤ 35184372088832
     ·rw [if_pos c10] at H
      have c10b0 := eq_true c10
      have c10b1 : decide ((a1 : Int).toNat ≤ 35184372088832) = true := decide_eq_true c10
      clear c10
      obtain ⟨y542, hy542⟩ : ∃ y_ : List Int, y_ = (List.replicate (a1 : Int).toNat 0) := ⟨_, rfl⟩
      replace H : (peristyleref2_reader_unpacked.l0 kj3 a1 a2 y542 0 (y542.length : Int) 0 s0_0 s0_1) = some (r1, r2, r3) := by (have H2_ := (Option.bind_some _ _).symm.trans H; rw [hy542]; with_reducible exact H2_)
      have Ny542 := Aside0.mk hy542
      clear hy542
      have H' := Aside0.mk H
      clear H
      go_wp2_with (first | ((with_reducible refine gate_dst (N := 29) rfl ?_); (try (refine gate_guard (by rfl) ?_; dsimp only)); refine Kd.R_make (Kd.int .i64) _ 3 rfl (N := 29) rfl 22 _ _ rfl a1 rfl rfl Try.underlying22 (.int .i64 0) 8 info3 rfl (by decide) (by omega) 0 (ok := fun _ => True) (okp := fun _ => True) rfl (fun _ hk => hk) trivial (of_decide_eq_true (by (with_reducible assumption))) (Nat.le_trans (Nat.mul_le_mul_right _ (of_decide_eq_true (by (with_reducible assumption)) : a1.toNat ≤ 35184372088832)) (by omega)) (Below.refl _ _) (Nat.le_refl _) ?_; intro v543 w11 ho12 hb hg_ hnew_; clear hg_ hnew_; (rw [← Ny542.out] at ho12); have n0_ := Aside0.mk (Kd.R_lower ho12 (keep_size (w := w) (g := g) (row := none) (by exact HK.out))); have n1_ := Aside0.mk (IsS75.below (by exact HI0.out) hb); have n2_ := Aside0.mk (KeepBut.trans (by exact HK.out) (KeepBut.of_below hb g none) (.inl rfl)); have n3_ := Aside0.mk (below_step (by exact HB.out) hb); clear HI0; clear HK; clear HB; have HO544 := n0_; have HI0 := n1_; have HK := n2_; have HB := n3_; clear n0_ n1_ n2_ n3_; clear hb ho12; obtain ⟨Ao13, co13, eo13⟩ := Kd.R_slice HO544.out; subst eo13))
      go_loopg [8, 32] kj3 (fun kq v8 v32 w' => ∃ (x7_2 : List Int) (x8_2 : Int) (x32_2 : Int), v8 = .int .i64 x8_2 ∧ v32 = .int .i64 x32_2 ∧ Aside0 (peristyleref2_reader_unpacked.l0 kq a1 a2 x7_2 x8_2 (y542.length : Int) x32_2 s0_0 s0_1 = some (r1, r2, r3)) ∧ Aside0 (kq ≤ kj3) ∧ Aside0 (Kd.R (Kd.int .i64) 3 w' w.heap.size (fun _ => True) (.slice Ao13 y542.length co13) x7_2) ∧ Aside0 (IsS75 w0 w' g s0_0 s0_1) ∧ Aside0 (KeepBut w w' g none) ∧ Aside0 (Below w0.heap.size w0 w'))
      case atStart => exact ⟨(y542), (0), (0), (by rfl), (by rfl), H', ⟨Nat.le_refl _⟩, ⟨by exact HO544.out⟩, ⟨by exact HI0.out⟩, ⟨by exact HK.out⟩, ⟨by exact HB.out⟩⟩
      case round =>
       clear H'
       try clear c9b0
       try clear c9b1
       try clear c10b0
       try clear c10b1
       obtain ⟨x7_2, x8_2, x32_2, rfl, rfl, HA, HK2, HO_7, HI0, HK, HB⟩ := hrel
       have hl7_2 := (Kd.R_reads' HO_7.out).1
       rw [hl7_2] at HO_7
       (try simp only [hl7_2])
       cases gk with
       | zero => exact absurd HA.out (by simp [peristyleref2_reader_unpacked.l0])
       | succ k2 =>
        have H := HA.out
        clear HA
        simp only [peristyleref2_reader_unpacked.l0] at H
        by_cases c14 : x32_2 < (y542.length : Int)
        ·rw [if_pos c14] at H
         have c14b0 : decide (x32_2 < (y542.length : Int)) = true := decide_eq_true c14
         have c14l0 := c14b0
         (try rw [hl7_2] at c14l0)
         clear c14
         have H' := Aside0.mk H
         clear H
         go_wp2
         go_loopg [8, 36] k2 (fun kq v8 v36 w' => ∃ (x7_3 : List Int) (x8_3 : Int) (x36_3 : Int), v8 = .int .i64 x8_3 ∧ v36 = .int .i64 x36_3 ∧ Aside0 (peristyleref2_reader_unpacked.l1 kq a1 a2 x7_3 x8_3 x32_2 (y542.length : Int) x32_2 a2 x36_3 s0_0 s0_1 = some (r1, r2, r3)) ∧ Aside0 (kq ≤ k2) ∧ Aside0 (Kd.R (Kd.int .i64) 3 w' w.heap.size (fun _ => True) (.slice Ao13 x7_2.length co13) x7_3) ∧ Aside0 (IsS75 w0 w' g s0_0 s0_1) ∧ Aside0 (KeepBut w w' g none) ∧ Aside0 (Below w0.heap.size w0 w'))
         case atStart => exact ⟨(x7_2), (x8_2), (0), (by rfl), (by rfl), H', ⟨Nat.le_refl _⟩, ⟨by exact HO_7.out⟩, ⟨by exact HI0.out⟩, ⟨by exact HK.out⟩, ⟨by exact HB.out⟩⟩
         case round =>
          clear H'
          try clear c14b0
          obtain ⟨x7_3, x8_3, x36_3, rfl, rfl, HA, HK3, HO_7, HI0, HK, HB⟩ := hrel
          have hl7_3 := (Kd.R_reads' HO_7.out).1
          rw [hl7_3] at HO_7
          (try simp only [hl7_3])
          cases gk with
          | zero => exact absurd HA.out (by simp [peristyleref2_reader_unpacked.l1])
          | succ k3 =>
           have H := HA.out
           clear HA
           simp only [peristyleref2_reader_unpacked.l1] at H
           by_cases c15 : x36_3 < a2
           ·rw [if_pos c15] at H
            have c15b0 : decide (x36_3 < a2) = true := decide_eq_true c15
            clear c15
            by_cases c16 : 0 ≤ x32_2
            ·rw [if_pos c16] at H
             have c16b0 : decide (0 ≤ x32_2) = true := decide_eq_true c16
             clear c16
             by_cases c17 : x32_2 < (x7_3.length : Int)
             ·rw [if_pos c17] at H
              have c17b0 : decide (x32_2 < (x7_3.length : Int)) = true := decide_eq_true c17
              have c17l0 := c17b0
              (try rw [hl7_2] at c17l0)
              (try rw [hl7_3] at c17l0)
              clear c17
              obtain ⟨ji18, hji18⟩ : ∃ j_ : Int, (wrap64 (Int.tdiv x8_3 8)) = j_ := ⟨_, rfl⟩
              replace H : (if 0 ≤ (ji18) then (if (ji18) < (s0_0.length : Int) then (if 0 ≤ (wrap64 (7 - (Int.tmod x8_3 8))) then (peristyleref2_reader_unpacked.l1 k3 a1 a2 (x7_3.set (x32_2 : Int).toNat (Go.bits .or .i64 (wrap64 ((rd x7_3 x32_2) * 2)) (wrap64 (Go.bits .and .u8 (shr .u8 (rd s0_0 (ji18)) (wrap64 (7 - (Int.tmod x8_3 8)))) 1)))) (wrap64 (x8_3 + 1)) x32_2 (y542.length : Int) x32_2 a2 (wrap64 (x36_3 + 1)) s0_0 s0_1) else (none)) else (none)) else (none)) = some (r1, r2, r3) := by (rw [hji18] at H; exact H)
              have hji18w : (IntKind.i64.wrap (Int.tdiv x8_3 8)) = ji18 := (i64_w _).trans hji18
              by_cases c19 : 0 ≤ (ji18)
              ·rw [if_pos c19] at H
               have c19b0 : decide (0 ≤ (ji18)) = true := decide_eq_true c19
               clear c19
               by_cases c20 : (ji18) < (s0_0.length : Int)
               ·rw [if_pos c20] at H
                have c20b0 : decide ((ji18) < (s0_0.length : Int)) = true := decide_eq_true c20
                have c20l0 := c20b0
                (try rw [hl7_2] at c20l0)
                (try rw [hl7_3] at c20l0)
                clear c20
                obtain ⟨ji21, hji21⟩ : ∃ j_ : Int, (wrap64 (7 - (Int.tmod x8_3 8))) = j_ := ⟨_, rfl⟩
                replace H : (if 0 ≤ (ji21) then (peristyleref2_reader_unpacked.l1 k3 a1 a2 (x7_3.set (x32_2 : Int).toNat (Go.bits .or .i64 (wrap64 ((rd x7_3 x32_2) * 2)) (wrap64 (Go.bits .and .u8 (shr .u8 (rd s0_0 (ji18)) (ji21)) 1)))) (wrap64 (x8_3 + 1)) x32_2 (y542.length : Int) x32_2 a2 (wrap64 (x36_3 + 1)) s0_0 s0_1) else (none)) = some (r1, r2, r3) := by (rw [hji21] at H; exact H)
                have hji21w : (IntKind.i64.wrap (7 - (Int.tmod x8_3 8))) = ji21 := (i64_w _).trans hji21
                by_cases c22 : 0 ≤ (ji21)
                ·rw [if_pos c22] at H
                 have c22b0 := eq_true c22
                 have c22b1 : decide (0 ≤ (ji21)) = true := decide_eq_true c22
                 clear c22
                 obtain ⟨ji23, hji23⟩ : ∃ j_ : Int, (shr .u8 (rd s0_0 (ji18)) (ji21)) = j_ := ⟨_, rfl⟩
                 replace H : (peristyleref2_reader_unpacked.l1 k3 a1 a2 (x7_3.set (x32_2 : Int).toNat (Go.bits .or .i64 (wrap64 ((rd x7_3 x32_2) * 2)) (wrap64 (Go.bits .and .u8 (ji23) 1)))) (wrap64 (x8_3 + 1)) x32_2 (y542.length : Int) x32_2 a2 (wrap64 (x36_3 + 1)) s0_0 s0_1) = some (r1, r2, r3) := by (rw [hji23] at H; exact H)
                 have hji23_ : ((rd s0_0 (ji18)) / 2 ^ min (ji21).toNat 8) = ji23 := hji23
                 have hji23z : (ji21) ≤ 8 → ((rd s0_0 (ji18)) / 2 ^ (ji21).toNat) = ji23 := shr_small hji23
                 obtain ⟨y548, hy548⟩ : ∃ y_ : List Int, y_ = (x7_3.set (x32_2 : Int).toNat (Go.bits .or .i64 (wrap64 ((rd x7_3 x32_2) * 2)) (wrap64 (Go.bits .and .u8 (ji23) 1)))) := ⟨_, rfl⟩
                 replace H : (peristyleref2_reader_unpacked.l1 k3 a1 a2 y548 (wrap64 (x8_3 + 1)) x32_2 (y542.length : Int) x32_2 a2 (wrap64 (x36_3 + 1)) s0_0 s0_1) = some (r1, r2, r3) := by (rw [hy548]; with_reducible exact H)
                 have Ny548 := Aside0.mk hy548
                 clear hy548
                 have H' := Aside0.mk H
                 clear H
                 try go_wp2
                 have n0_ := Aside0.mk (Kd.R_drew HO_7.out)
                 have n1_ := Aside0.mk (IsS75.drew HI0.out)
                 have n2_ := Aside0.mk (keep_drew HK.out)
                 have n3_ := Aside0.mk (below_drew1 HB.out)
                 clear HO_7
                 clear HI0
                 clear HK
                 clear HB
                 have HO_7 := n0_
                 have HI0 := n1_
                 have HK := n2_
                 have HB := n3_
                 clear n0_ n1_ n2_ n3_
                 have p546 : 0 ≤ (x32_2 : Int) := of_decide_eq_true (by (with_reducible assumption))
                 have q546 : x32_2 < (x7_3.length : Int) := of_decide_eq_true (by (with_reducible assumption))
                 obtain ⟨ad546, e546, hx546_0⟩ := Kd.at_int (Kd.R_reads' HO_7.out).2.2 x32_2 p546 q546
                 cases e546
                 replace p546 := eq_true p546
                 replace q546 := eq_true q546
                 obtain ⟨ASz26_0, cSz26_0, HGz26, hgz26, HSz26_0⟩ := HI0.out
                 have hcz26_0 := cellS75_0 HGz26
                 have hcz26_1 := cellS75_1 HGz26
                 have hfz26_0 := blk_frozen HGz26 0
                 have hfz26_1 := blk_frozen HGz26 1
                 have HCSz26_0 := HSz26_0.1
                 replace HSz26_0 := HSz26_0.2
                 clear HGz26 hgz26
                 have HRsrz26_0 := Aside0.mk (Kd.C_below HSz26_0 HBZ.out)
                 have hfsrz26_0 : ∀ ad : Addr, ASz26_0 = some ad → 0 < s0_0.length → ad.block ≠ g := Kd.far_C 0 HSz26_0 (IsS75.ge HI0.out)
                 have p547 : 0 ≤ ((ji18) : Int) := of_decide_eq_true (by (with_reducible assumption))
                 have q547 : (ji18) < (s0_0.length : Int) := of_decide_eq_true (by (with_reducible assumption))
                 obtain ⟨ad547, e547, hx547_0⟩ := Kd.at_int HRsrz26_0.out (ji18) p547 q547
                 have hw547_0 := hx547_0
                 cases e547
                 have hne547_0 := (show ((ad547.add ((ji18)).toNat) : Addr).block ≠ g from by (rw [add_block]; exact hfsrz26_0 ad547 rfl (by omega)))
                 replace hx547_0 := keep_cell HK.out hx547_0 (by (rw [add_block]; exact hfsrz26_0 _ rfl (by omega)))
                 replace p547 := eq_true p547
                 replace q547 := eq_true q547
                 have p24 : 0 ≤ (x32_2 : Int) := of_decide_eq_true (by (with_reducible assumption))
                 have q24 : (x32_2 : Int) < ((x7_3.length : Int) : Int) := of_decide_eq_true (by (with_reducible assumption))
                 obtain ⟨go24, co24, eo24, gb24, gl24, cl24, HG24⟩ := Kd.R_form HO_7.out (by omega)
                 (cases eo24)
                 have GB24 := Aside0.mk gb24
                 have GG24 := Aside0.mk HG24
                 clear gb24 gl24 HG24
                 (simp only [add_plain] at hx546_0)
                 obtain ⟨hx24_0, hf24_0⟩ := Kd.R_celln 0 HO_7.out (x32_2 : Int) p24 q24
                 replace p24 := eq_true p24
                 replace q24 := eq_true q24
                 have HN0_go24 := Aside0.mk (show g ≠ go24 from by have h_ := IsS75.own_ne HI0.out HO_7.out (by decide); intro e_; exact h_ (by rw [e_]; rfl))
                 have HP27 := Kd.R_putn HO_7.out (x32_2 : Int) (Go.bits .or .i64 (wrap64 ((rd x7_3 x32_2) * 2)) (wrap64 (Go.bits .and .u8 (ji23) 1)))
                 rw [← Ny548.out] at HP27
                 have HQ27 := Aside0.mk HP27
                 clear HP27
                 refine start_ (n := 24) (S := fun w' => w'.cell? ⟨g, 0, none⟩ = some (.slice (some ad547) s0_0.length cSz26_0) ∧ w'.cell? ⟨g, 1, none⟩ = some (.bool s0_1) ∧ w'.cell? ⟨go24, (x32_2).toNat, none⟩ = some (.int .i64 (rd x7_3 x32_2)) ∧ w'.cell? (ad547.add ((ji18)).toNat) = some (.int .u8 (rd s0_0 (ji18)))) (ds := [23]) #[false, false, false, false, false, false, false, false, false, false, false, false, false, false, false, false, false, false, false, false, false, false, false, false] (by kernel_rfl) rfl rfl ⟨hcz26_0, hcz26_1, hx546_0, (keep_cell HK.out hw547_0 hne547_0)⟩ (fun hHeld => ?_); refine with_tabW peristyleref2_reader_unpacked.tab11 peristyleref2_reader_unpacked.bits11 (fun HT_ HW_ => ?_)
                 generalize wr.drew = w25 at HO_7 HI0 HK HB GG24 HQ27 hf24_0 hx24_0 hx546_0 hx547_0 hHeld ⊢
                 refine pure_ (i := 0) (N := some 38) (v := ?_) (a' := ?_) #[true, false, false, false, false, false, false, false, false, false, false, false, false, false, false, false, false, false, false, false, false, false, false, false] rfl rfl (any_of HT_.out (by kernel_rfl)) (fun _ _ _ h => h) (Or.inl ⟨by rfl, ?_⟩) ?_ ?_
                 rotate_left
                 ·intro w'
                  go_simp
                  with_reducible rfl
                 rotate_left
                 ·simp only [Act.put, List.setIfInBounds_toArray, List.set_cons_zero, List.set_cons_succ, i64_w, i32_w]
                  rfl
                 refine pure_ (i := 1) (N := some 39) (v := ?_) (a' := ?_) #[true, true, false, false, false, false, false, false, false, false, false, false, false, false, false, false, false, false, false, false, false, false, false, false] rfl rfl (any_of HT_.out (by kernel_rfl)) (fun _ _ _ h => h) (Or.inl ⟨by rfl, ?_⟩) ?_ ?_
                 rotate_left
                 ·intro w'
                  go_simp
                  with_reducible rfl
                 rotate_left
                 ·simp only [Act.put, List.setIfInBounds_toArray, List.set_cons_zero, List.set_cons_succ, i64_w, i32_w]
                  rfl
                 refine pure_ (i := 2) (N := some 40) (v := ?_) (a' := ?_) #[true, true, true, false, false, false, false, false, false, false, false, false, false, false, false, false, false, false, false, false, false, false, false, false] rfl rfl (any_of HT_.out (by kernel_rfl)) (fun _ _ _ h => h) (Or.inl ⟨by rfl, ?_⟩) ?_ ?_
                 rotate_left
                 ·intro w'
                  go_simp
                  with_reducible rfl
                 rotate_left
                 ·simp only [Act.put, List.setIfInBounds_toArray, List.set_cons_zero, List.set_cons_succ, i64_w, i32_w]
                  rfl
                 refine pure_ (i := 3) (N := some 41) (v := ?_) (a' := ?_) #[true, true, true, true, false, false, false, false, false, false, false, false, false, false, false, false, false, false, false, false, false, false, false, false] rfl rfl (any_of HT_.out (by kernel_rfl)) (fun _ _ _ h => h) (Or.inl ⟨by rfl, ?_⟩) ?_ ?_
                 rotate_left
                 ·intro w'
                  go_simp
                  with_reducible rfl
                 rotate_left
                 ·simp only [Act.put, List.setIfInBounds_toArray, List.set_cons_zero, List.set_cons_succ, i64_w, i32_w]
                  rfl
                 refine pure_ (i := 4) (N := some 42) (v := ?_) (a' := ?_) #[true, true, true, true, true, false, false, false, false, false, false, false, false, false, false, false, false, false, false, false, false, false, false, false] rfl rfl (any_of HT_.out (by kernel_rfl)) (fun _ _ _ h => h) (Or.inl ⟨by rfl, ?_⟩) ?_ ?_
                 rotate_left
                 ·intro w'
                  go_simp
                  with_reducible rfl
                 rotate_left
                 ·simp only [Act.put, List.setIfInBounds_toArray, List.set_cons_zero, List.set_cons_succ, i64_w, i32_w]
                  rfl
                 refine pure_ (i := 7) (N := some 45) (v := ?_) (a' := ?_) #[true, true, true, true, true, false, false, true, false, false, false, false, false, false, false, false, false, false, false, false, false, false, false, false] rfl rfl (any_of HT_.out (by kernel_rfl)) (fun _ _ _ h => h) (Or.inl ⟨by rfl, ?_⟩) ?_ ?_
                 rotate_left
                 ·intro w'
                  go_simp
                  with_reducible rfl
                 rotate_left
                 ·simp only [Act.put, List.setIfInBounds_toArray, List.set_cons_zero, List.set_cons_succ, i64_w, i32_w]
                  rfl
                 refine pure_ (i := 8) (N := some 46) (v := ?_) (a' := ?_) #[true, true, true, true, true, false, false, true, true, false, false, false, false, false, false, false, false, false, false, false, false, false, false, false] rfl rfl (any_of HT_.out (by kernel_rfl)) (fun _ _ _ h => h) (Or.inl ⟨by rfl, ?_⟩) ?_ ?_
                 rotate_left
                 ·intro w'
                  go_simp
                  with_reducible rfl
                 rotate_left
                 ·simp only [Act.put, List.setIfInBounds_toArray, List.set_cons_zero, List.set_cons_succ, i64_w, i32_w]
                  rfl
                 refine pure_ (i := 9) (N := some 47) (v := ?_) (a' := ?_) #[true, true, true, true, true, false, false, true, true, true, false, false, false, false, false, false, false, false, false, false, false, false, false, false] rfl rfl (any_of HT_.out (by kernel_rfl)) (fun _ _ _ h => h) (Or.inl ⟨by rfl, ?_⟩) ?_ ?_
                 rotate_left
                 ·intro w'
                  go_simp
                  with_reducible rfl
                 rotate_left
                 ·simp only [Act.put, List.setIfInBounds_toArray, List.set_cons_zero, List.set_cons_succ, i64_w, i32_w]
                  rfl
                 refine pure_ (i := 11) (N := some 49) (v := ?_) (a' := ?_) #[true, true, true, true, true, false, false, true, true, true, false, true, false, false, false, false, false, false, false, false, false, false, false, false] rfl rfl (any_of HT_.out (by kernel_rfl)) (fun _ _ _ h => h) (Or.inl ⟨by rfl, ?_⟩) ?_ ?_
                 rotate_left
                 ·intro w'
                  go_simp
                  with_reducible rfl
                 rotate_left
                 ·simp only [Act.put, List.setIfInBounds_toArray, List.set_cons_zero, List.set_cons_succ, i64_w, i32_w]
                  rfl
                 refine pure_ (i := 12) (N := some 50) (v := ?_) (a' := ?_) #[true, true, true, true, true, false, false, true, true, true, false, true, true, false, false, false, false, false, false, false, false, false, false, false] rfl rfl (any_of HT_.out (by kernel_rfl)) (fun _ _ _ h => h) (Or.inl ⟨by rfl, ?_⟩) ?_ ?_
                 rotate_left
                 ·intro w'
                  go_simp
                  with_reducible rfl
                 rotate_left
                 ·simp only [Act.put, List.setIfInBounds_toArray, List.set_cons_zero, List.set_cons_succ, i64_w, i32_w]
                  rfl
                 refine pure_ (i := 15) (N := some 53) (v := ?_) (a' := ?_) #[true, true, true, true, true, false, false, true, true, true, false, true, true, false, false, true, false, false, false, false, false, false, false, false] rfl rfl (any_of HT_.out (by kernel_rfl)) (fun _ _ _ h => h) (Or.inl ⟨by rfl, ?_⟩) ?_ ?_
                 rotate_left
                 ·intro w'
                  go_simp
                  with_reducible rfl
                 rotate_left
                 ·simp only [Act.put, List.setIfInBounds_toArray, List.set_cons_zero, List.set_cons_succ, i64_w, i32_w]
                  rfl
                 refine pure_ (i := 16) (N := some 54) (v := ?_) (a' := ?_) #[true, true, true, true, true, false, false, true, true, true, false, true, true, false, false, true, true, false, false, false, false, false, false, false] rfl rfl (any_of HT_.out (by kernel_rfl)) (fun _ _ _ h => h) (Or.inl ⟨by rfl, ?_⟩) ?_ ?_
                 rotate_left
                 ·intro w'
                  go_simp
                  with_reducible rfl
                 rotate_left
                 ·simp only [Act.put, List.setIfInBounds_toArray, List.set_cons_zero, List.set_cons_succ, i64_w, i32_w]
                  rfl
                 refine pure_ (i := 17) (N := some 55) (v := ?_) (a' := ?_) #[true, true, true, true, true, false, false, true, true, true, false, true, true, false, false, true, true, true, false, false, false, false, false, false] rfl rfl (any_of HT_.out (by kernel_rfl)) (fun _ _ _ h => h) (Or.inl ⟨by rfl, ?_⟩) ?_ ?_
                 rotate_left
                 ·intro w'
                  go_simp
                  with_reducible rfl
                 rotate_left
                 ·simp only [Act.put, List.setIfInBounds_toArray, List.set_cons_zero, List.set_cons_succ, i64_w, i32_w]
                  rfl
                 refine take_ (i := 5) (N := some 43) (v := ?_) (a' := ?_) #[true, true, true, true, true, true, false, true, true, true, false, true, true, false, false, true, true, true, false, false, false, false, false, false] rfl rfl (take_ofW HT_.out HW_.out (by kernel_rfl)) (fun _ _ _ h => h) (Or.inl ⟨by rfl, ?_⟩) hHeld ?_ ?_
                 rotate_left
                 ·rintro w' ⟨s0, s1, s2, s3⟩
                  go_simp
                  with_reducible rfl
                 rotate_left
                 ·simp only [Act.put, List.setIfInBounds_toArray, List.set_cons_zero, List.set_cons_succ, i64_w, i32_w]
                  rfl
                 refine pure_ (i := 6) (N := some 44) (v := ?_) (a' := ?_) #[true, true, true, true, true, true, true, true, true, true, false, true, true, false, false, true, true, true, false, false, false, false, false, false] rfl rfl (any_of HT_.out (by kernel_rfl)) (fun _ _ _ h => h) (Or.inl ⟨by rfl, ?_⟩) ?_ ?_
                 rotate_left
                 ·intro w'
                  go_simp
                  with_reducible rfl
                 rotate_left
                 ·simp only [Act.put, List.setIfInBounds_toArray, List.set_cons_zero, List.set_cons_succ, i64_w, i32_w]
                  rfl
                 refine take_ (i := 10) (N := some 48) (v := ?_) (a' := ?_) #[true, true, true, true, true, true, true, true, true, true, true, true, true, false, false, true, true, true, false, false, false, false, false, false] rfl rfl (take_ofW HT_.out HW_.out (by kernel_rfl)) (fun _ _ _ h => h) (Or.inl ⟨by rfl, ?_⟩) hHeld ?_ ?_
                 rotate_left
                 ·rintro w' ⟨s0, s1, s2, s3⟩
                  go_simp
                  with_reducible rfl
                 rotate_left
                 ·simp only [Act.put, List.setIfInBounds_toArray, List.set_cons_zero, List.set_cons_succ, i64_w, i32_w]
                  rfl
                 refine pure_ (i := 13) (N := some 51) (v := ?_) (a' := ?_) #[true, true, true, true, true, true, true, true, true, true, true, true, true, true, false, true, true, true, false, false, false, false, false, false] rfl rfl (any_of HT_.out (by kernel_rfl)) (fun _ _ _ h => h) (Or.inl ⟨by rfl, ?_⟩) ?_ ?_
                 rotate_left
                 ·intro w'
                  go_simp
                  with_reducible rfl
                 rotate_left
                 ·simp only [Act.put, List.setIfInBounds_toArray, List.set_cons_zero, List.set_cons_succ, i64_w, i32_w]
                  rfl
                 refine take_ (i := 14) (N := some 52) (v := ?_) (a' := ?_) #[true, true, true, true, true, true, true, true, true, true, true, true, true, true, true, true, true, true, false, false, false, false, false, false] rfl rfl (take_ofW HT_.out HW_.out (by kernel_rfl)) (fun _ _ _ h => h) (Or.inl ⟨by rfl, ?_⟩) hHeld ?_ ?_
                 rotate_left
                 ·rintro w' ⟨s0, s1, s2, s3⟩
                  go_simp
                  with_reducible rfl
                 rotate_left
                 ·simp only [Act.put, List.setIfInBounds_toArray, List.set_cons_zero, List.set_cons_succ, i64_w, i32_w]
                  rfl
                 refine pure_ (i := 18) (N := some 56) (v := ?_) (a' := ?_) #[true, true, true, true, true, true, true, true, true, true, true, true, true, true, true, true, true, true, true, false, false, false, false, false] rfl rfl (any_of HT_.out (by kernel_rfl)) (fun _ _ _ h => h) (Or.inl ⟨by rfl, ?_⟩) ?_ ?_
                 rotate_left
                 ·intro w'
                  go_simp
                  with_reducible rfl
                 rotate_left
                 ·simp only [Act.put, List.setIfInBounds_toArray, List.set_cons_zero, List.set_cons_succ, i64_w, i32_w]
                  rfl
                 refine pure_ (i := 19) (N := some 57) (v := ?_) (a' := ?_) #[true, true, true, true, true, true, true, true, true, true, true, true, true, true, true, true, true, true, true, true, false, false, false, false] rfl rfl (any_of HT_.out (by kernel_rfl)) (fun _ _ _ h => h) (Or.inl ⟨by rfl, ?_⟩) ?_ ?_
                 rotate_left
                 ·intro w'
                  go_simp
                  with_reducible rfl
                 rotate_left
                 ·simp only [Act.put, List.setIfInBounds_toArray, List.set_cons_zero, List.set_cons_succ, i64_w, i32_w]
                  rfl
                 refine pure_ (i := 20) (N := some 58) (v := ?_) (a' := ?_) #[true, true, true, true, true, true, true, true, true, true, true, true, true, true, true, true, true, true, true, true, true, false, false, false] rfl rfl (any_of HT_.out (by kernel_rfl)) (fun _ _ _ h => h) (Or.inl ⟨by rfl, ?_⟩) ?_ ?_
                 rotate_left
                 ·intro w'
                  go_simp
                  with_reducible rfl
                 rotate_left
                 ·simp only [Act.put, List.setIfInBounds_toArray, List.set_cons_zero, List.set_cons_succ, i64_w, i32_w]
                  rfl
                 refine pure_ (i := 21) (N := some 59) (v := ?_) (a' := ?_) #[true, true, true, true, true, true, true, true, true, true, true, true, true, true, true, true, true, true, true, true, true, true, false, false] rfl rfl (any_of HT_.out (by kernel_rfl)) (fun _ _ _ h => h) (Or.inl ⟨by rfl, ?_⟩) ?_ ?_
                 rotate_left
                 ·intro w'
                  go_simp
                  with_reducible rfl
                 rotate_left
                 ·simp only [Act.put, List.setIfInBounds_toArray, List.set_cons_zero, List.set_cons_succ, i64_w, i32_w]
                  rfl
                 refine pure_ (i := 22) (N := some 60) (v := ?_) (a' := ?_) #[true, true, true, true, true, true, true, true, true, true, true, true, true, true, true, true, true, true, true, true, true, true, true, false] rfl rfl (any_of HT_.out (by kernel_rfl)) (fun _ _ _ h => h) (Or.inl ⟨by rfl, ?_⟩) ?_ ?_
                 rotate_left
                 ·intro w'
                  go_simp
                  with_reducible rfl
                 rotate_left
                 ·simp only [Act.put, List.setIfInBounds_toArray, List.set_cons_zero, List.set_cons_succ, i64_w, i32_w]
                  rfl
                 refine last_ (i := 23) (N := none) #[true, true, true, true, true, true, true, true, true, true, true, true, true, true, true, true, true, true, true, true, true, true, true, true] rfl rfl (one_of HT_.out (by kernel_rfl)) (by decide) (fun K hK => ?_)
                 refine skip_ (w1 := ?_) (by rfl) rfl ?_ ?_
                 rotate_left
                 ·go_simp
                  rfl
                 refine hK.out _ _ ?_
                 clear hK K
                 refine done_ (done_of HT_.out (by kernel_rfl)) ?_
                 try go_wp2
                 (try simp only [← hl7_3])
                 go_roundg k3
                 case measure => have := HJ3.out; have := HK2.out; have := HK3.out; omega
                 case rel => exact ⟨(y548), (wrap64 (x8_3 + 1)), (wrap64 (x36_3 + 1)), (by rfl), (by rfl), H', ⟨by have := HJ3.out; have := HK2.out; have := HK3.out; omega⟩, ⟨by (try simp only [hl7_3]); exact HQ27.out⟩, ⟨by repeat ((with_reducible first | exact HI0.out | refine IsS75.far ?_ HN0_go24.out _))⟩, ⟨by repeat ((with_reducible first | exact HK.out | refine keep_far ?_ GB24.out _))⟩, ⟨by repeat ((with_reducible first | exact HB.out | refine below_set ?_ (Nat.le_trans HL.out GB24.out)))⟩⟩
                ·rw [if_neg c22] at H
                 exact absurd H (by simp)
               ·rw [if_neg c20] at H
                exact absurd H (by simp)
              ·rw [if_neg c19] at H
               exact absurd H (by simp)
             ·rw [if_neg c17] at H
              exact absurd H (by simp)
            ·rw [if_neg c16] at H
             exact absurd H (by simp)
           ·rw [if_neg c15] at H
            have c15b0 : decide (x36_3 < a2) = false := decide_eq_false c15
            clear c15
            have H' := Aside0.mk H
            clear H
            go_wp2
            (try simp only [← hl7_2, ← hl7_3])
            go_roundg k3
            case measure => have := HJ3.out; have := HK2.out; have := HK3.out; omega
            case rel => exact ⟨(x7_3), (x8_3), (wrap64 (x32_2 + 1)), (by rfl), (by rfl), H', ⟨by have := HJ3.out; have := HK2.out; have := HK3.out; omega⟩, ⟨by (try simp only [hl7_2]); (try simp only [hl7_3]); exact HO_7.out⟩, ⟨by exact HI0.out⟩, ⟨by exact HK.out⟩, ⟨by exact HB.out⟩⟩
        ·rw [if_neg c14] at H
         have c14b0 : decide (x32_2 < (y542.length : Int)) = false := decide_eq_false c14
         have c14l0 := c14b0
         (try rw [hl7_2] at c14l0)
         clear c14
         obtain ⟨ji28, hji28⟩ : ∃ j_ : Int, (wrap64 (Int.tdiv (wrap64 ((wrap64 (a1 * a2)) + 7)) 8)) = j_ := ⟨_, rfl⟩
         replace H : (if 0 ≤ (ji28) then (if (ji28) ≤ (s0_0.length : Int) then (some (x7_2, s0_0.drop ((ji28) : Int).toNat, s0_1)) else (none)) else (none)) = some (r1, r2, r3) := by (rw [hji28] at H; exact H)
         have hji28w : (IntKind.i64.wrap (Int.tdiv (wrap64 ((wrap64 (a1 * a2)) + 7)) 8)) = ji28 := (i64_w _).trans hji28
         by_cases c29 : 0 ≤ (ji28)
         ·rw [if_pos c29] at H
          have c29b0 := eq_true c29
          have c29b1 : decide (0 ≤ (ji28)) = true := decide_eq_true c29
          clear c29
          by_cases c30 : (ji28) ≤ (s0_0.length : Int)
          ·rw [if_pos c30] at H
           have c30b0 := eq_true c30
           have c30b1 : decide ((ji28) ≤ (s0_0.length : Int)) = true := decide_eq_true c30
           clear c30
           simp only [Option.some.injEq, Prod.mk.injEq] at H
           obtain ⟨rfl, rfl, rfl⟩ := H
           obtain ⟨ASz31_0, cSz31_0, HGz31, hgz31, HSz31_0⟩ := HI0.out
           have hcz31_0 := cellS75_0 HGz31
           have hcz31_1 := cellS75_1 HGz31
           have hfz31_0 := blk_frozen HGz31 0
           have hfz31_1 := blk_frozen HGz31 1
           have HCSz31_0 := HSz31_0.1
           replace HSz31_0 := HSz31_0.2
           clear HGz31 hgz31
           have HRs32 := Aside0.mk (Kd.C_below HSz31_0 HBZ.out)
           have HCs32 := Aside0.mk HCSz31_0
           have hfs32 : ∀ ad : Addr, ASz31_0 = some ad → 0 < s0_0.length → ad.block ≠ g := Kd.far_C 0 HSz31_0 (IsS75.ge HI0.out)
           obtain ⟨i032, hi032, _, hsz32, _⟩ := info_parts info5
           obtain ⟨A32, hcut32, hA32, hC32⟩ := print_drop_of (P := Try.prog) (Value.int .u8) 0 27 5 .i64 Try.underlying27 hi032 hsz32 ASz31_0 cSz31_0 s0_0 (ji28) (of_decide_eq_true (by (with_reducible assumption))) (of_decide_eq_true (by (with_reducible assumption))) HCs32.out
           have HR545 := Aside0.mk (Kd.C_of_reads (h1 := fun _ => rfl) (hA32 _ (Kd.reads_of_C HRs32.out)))
           have HC545 := Aside0.mk hC32
           have hf545 : ∀ ad : Addr, A32 = some ad → 0 < (s0_0.drop ((ji28) : Int).toNat).length → ad.block ≠ g := fun ad he h_ => by cases he; exact Kd.foot_ne (fun W_ hk_ => Kd.C_of_reads (h1 := fun _ => rfl) (hA32 _ (Kd.reads_of_C (Kd.C_foot_ne (fun h => h) HRs32.out hfs32 W_ hk_)))) h_ (by decide)
           clear hi032 hsz32
           go_wp2
           go_ret
           exact ⟨_, by rfl, by exact Kd.R_mono (Kd.R_far (p := ⟨g, 0, none⟩) (IsS75.apart HI0.out HO_7.out (by decide)) (fun _ hk => hk.2) (_)) (fun _ hk => trivial), by repeat (exact IsS75.setw_0 (by exact HI0.out) (by simp) ⟨hC32, Kd.C_of_reads (h1 := fun _ => rfl) (hA32 _ (Kd.reads_of_C HSz31_0))⟩), by repeat ((with_reducible first | exact HB.out | refine below_set ?_ (IsS75.ge HI0.out))), by repeat ((with_reducible first | exact HK.out | apply KeepBut.set_ ))⟩
          ·rw [if_neg c30] at H
           exact absurd H (by simp)
         ·rw [if_neg c29] at H
          exact absurd H (by simp)
     ·rw [if_neg c10] at H
      exact absurd H (by simp)
    ·rw [if_neg c9] at H
     exact absurd H (by simp)

/-! ### peristyleref2_reader_picked: function 117 -/
def peristyleref2_reader_picked.l0 : Nat → List Int → List Int → List Int → Int → Int → List Int → Bool → Option (List Int × List Int × Bool)
 | 0, _, _, _, _, _, _, _ => none
 | k + 1, x2, x7, x13, x14, x15, x1000, x1001 => if x15 < x14 then (if 0 ≤ x15 then (if x15 < (x13.length : Int) then (if (rd x13 x15) ≥ (x2.length : Int) then (some (([] : List Int), x1000, true)) else (if 0 ≤ (rd x13 x15) then (if (rd x13 x15) < (x2.length : Int) then (if x15 < (x7.length : Int) then (peristyleref2_reader_picked.l0 k x2 (x7.set (x15 : Int).toNat (rd x2 (rd x13 x15))) x13 x14 (wrap64 (x15 + 1)) x1000 x1001) else (none)) else (none)) else (none))) else (none)) else (none)) else (some (x7, x1000, x1001))
def peristyleref2_reader_picked.f (k : Nat) (s0_0 : List Int) (s0_1 : Bool) (l1 : List Int) (l2 : List Int) : Option (List Int × List Int × Bool) := if 0 ≤ (l1.length : Int) then (if ((l1.length : Int) : Int).toNat ≤ 35184372088832 then (peristyleref2_reader_picked.l0 k l2 (List.replicate ((l1.length : Int) : Int).toNat 0) l1 (l1.length : Int) 0 s0_0 s0_1) else (none)) else (none)
theorem peristyleref2_reader_picked.mono_l : ∀ k, (∀ y0 y1 y2 y3 y4 y5 y6, LeO (peristyleref2_reader_picked.l0 k y0 y1 y2 y3 y4 y5 y6) (peristyleref2_reader_picked.l0 (k + 1) y0 y1 y2 y3 y4 y5 y6))
 | 0 => fun _ _ _ _ _ _ _ r h => by simp [peristyleref2_reader_picked.l0] at h
 | k + 1 => by
  have ih0 := peristyleref2_reader_picked.mono_l k
  ·intro y0 y1 y2 y3 y4 y5 y6
   unfold peristyleref2_reader_picked.l0
   repeat' first
   | (with_reducible exact ih0 _ _ _ _ _ _ _)
   | (with_reducible exact LeO.refl _)
   | (with_reducible refine LeO.ite ?_ ?_)
theorem peristyleref2_reader_picked.mono : ∀ a0 a1 a2 a3 k, LeO (peristyleref2_reader_picked.f k a0 a1 a2 a3) (peristyleref2_reader_picked.f (k + 1) a0 a1 a2 a3) := by
 intro a0 a1 a2 a3 k
 have ih0 := peristyleref2_reader_picked.mono_l k
 unfold peristyleref2_reader_picked.f
 repeat' first
  | (with_reducible exact ih0 _ _ _ _ _ _ _)
  | (with_reducible exact LeO.refl _)
  | (with_reducible refine LeO.ite ?_ ?_)
set_option maxHeartbeats 8000000 in
set_option maxRecDepth 100000 in
theorem peristyleref2_reader_picked.calls (k : Nat) (g : Nat) (s0_0 : List Int) (s0_1 : Bool) (A1 : Option Addr) (c1 : Nat) (l1 : List Int) (A2 : Option Addr) (c2 : Nat) (l2 : List Int) (r1 : List Int) (r2 : List Int) (r3 : Bool) (w0 w : World) (hI : IsS75 w0 w g s0_0 s0_1) (hB : Below w0.heap.size w0 w) (hr1 : Kd.C (Kd.int .i64) w A1 l1.length l1) (hc1 : l1.length ≤ c1) (hf1 : ∀ ad, A1 = some ad → 0 < l1.length → ad.block ≠ g) (hr2 : Kd.C (Kd.int .i64) w A2 l2.length l2) (hc2 : l2.length ≤ c2) (hf2 : ∀ ad, A2 = some ad → 0 < l2.length → ad.block ≠ g) (h : peristyleref2_reader_picked.f k s0_0 s0_1 l1 l2 = some (r1, r2, r3)) :
 Calls Try.prog 117 #[.pointer (some ⟨g, 0, none⟩), .slice A1 l1.length c1, .slice A2 l2.length c2] w fun e w' => ∃ v0_ : Value, e = .returned (v0_) ∧ Kd.R (Kd.int .i64) 3 w' w.heap.size (fun _ => True) v0_ r1 ∧ IsS75 w0 w' g r2 r3 ∧ Below w0.heap.size w0 w' ∧ KeepBut w w' g none := by
 have HR1 := Aside0.mk hr1
 have HC1 := Aside0.mk hc1
 clear hr1 hc1
 have HR2 := Aside0.mk hr2
 have HC2 := Aside0.mk hc2
 clear hr2 hc2
 have HI0 := Aside0.mk hI
 have HK := Aside0.mk (KeepBut.refl w g none)
 have HL := Aside0.mk hB.size
 clear hI
 have HW0 := Aside0.mk hB.size
 have HB := Aside0.mk hB
 have HBZ := Aside0.mk hB
 clear hB
 have H : (if 0 ≤ (l1.length : Int) then (if ((l1.length : Int) : Int).toNat ≤ 35184372088832 then (peristyleref2_reader_picked.l0 k l2 (List.replicate ((l1.length : Int) : Int).toNat 0) l1 (l1.length : Int) 0 s0_0 s0_1) else (none)) else (none)) = some (r1, r2, r3) := h
 clear h
 by_cases c4 : 0 ≤ (l1.length : Int)
 ·rw [if_pos c4] at H
  have c4b0 := eq_true c4
  have c4b1 : decide (0 ≤ (l1.length : Int)) = true := decide_eq_true c4
  clear c4
  by_cases c5 : ((l1.length : Int) : Int).toNat ≤ 35184372088832
  ·rw [if_pos c5] at H
   have c5b0 := eq_true c5
   have c5b1 : decide (((l1.length : Int) : Int).toNat ≤ 35184372088832) = true := decide_eq_true c5
   clear c5
   obtain ⟨y549, hy549⟩ : ∃ y_ : List Int, y_ = (List.replicate ((l1.length : Int) : Int).toNat 0) := ⟨_, rfl⟩
   replace H : (peristyleref2_reader_picked.l0 k l2 y549 l1 (l1.length : Int) 0 s0_0 s0_1) = some (r1, r2, r3) := by (rw [hy549]; with_reducible exact H)
   have Ny549 := Aside0.mk hy549
   clear hy549
   have H' := Aside0.mk H
   clear H
   go_enter Try.func117, Try.ntmps117
   go_wp2_with (first | ((with_reducible refine gate_dst (N := 12) rfl ?_); refine Kd.R_make (Kd.int .i64) _ 3 rfl (N := 12) rfl 22 _ _ rfl (l1.length : Int) rfl rfl Try.underlying22 (.int .i64 0) 8 info3 rfl (by decide) (by omega) 0 (ok := fun _ => True) (okp := fun _ => True) rfl (fun _ hk => hk) trivial (of_decide_eq_true (by (with_reducible assumption))) (Nat.le_trans (Nat.mul_le_mul_right _ (of_decide_eq_true (by (with_reducible assumption)) : (l1.length : Int).toNat ≤ 35184372088832)) (by omega)) (Below.refl _ _) (Nat.le_refl _) ?_; intro v550 w6 ho7 hb hg_ hnew_; clear hg_ hnew_; (rw [← Ny549.out] at ho7); have n0_ := Aside0.mk (Kd.R_lower ho7 (keep_size (w := w) (g := g) (row := none) (by exact HK.out))); have n1_ := Aside0.mk (IsS75.below (by exact HI0.out) hb); have n2_ := Aside0.mk (KeepBut.trans (by exact HK.out) (KeepBut.of_below hb g none) (.inl rfl)); have n3_ := Aside0.mk (below_step (by exact HB.out) hb); clear HI0; clear HK; clear HB; have HO551 := n0_; have HI0 := n1_; have HK := n2_; have HB := n3_; clear n0_ n1_ n2_ n3_; clear hb ho7))
   go_loopg [15] k (fun kq v15 w' => ∃ (x7_1 : List Int) (x15_1 : Int) (x1001_1 : Bool), v15 = .int .i64 x15_1 ∧ Aside0 (peristyleref2_reader_picked.l0 kq l2 x7_1 l1 (l1.length : Int) x15_1 s0_0 x1001_1 = some (r1, r2, r3)) ∧ Aside0 (kq ≤ k) ∧ Aside0 (Kd.R (Kd.int .i64) 3 w' w.heap.size (fun _ => True) v550 x7_1) ∧ Aside0 (IsS75 w0 w' g s0_0 x1001_1) ∧ Aside0 (KeepBut w w' g none) ∧ Aside0 (Below w0.heap.size w0 w'))
   case atStart => exact ⟨(y549), (0), (s0_1), (by rfl), H', ⟨Nat.le_refl _⟩, ⟨by exact HO551.out⟩, ⟨by exact HI0.out⟩, ⟨by exact HK.out⟩, ⟨by exact HB.out⟩⟩
   case round =>
    clear H'
    try clear c4b0
    try clear c4b1
    try clear c5b0
    try clear c5b1
    obtain ⟨x7_1, x15_1, x1001_1, rfl, HA, HK1, HO_7, HI0, HK, HB⟩ := hrel
    cases gk with
    | zero => exact absurd HA.out (by simp [peristyleref2_reader_picked.l0])
    | succ k1 =>
     have H := HA.out
     clear HA
     simp only [peristyleref2_reader_picked.l0] at H
     by_cases c8 : x15_1 < (l1.length : Int)
     ·rw [if_pos c8] at H
      have c8b0 : decide (x15_1 < (l1.length : Int)) = true := decide_eq_true c8
      clear c8
      by_cases c9 : 0 ≤ x15_1
      ·rw [if_pos c9] at H
       have c9b0 : decide (0 ≤ x15_1) = true := decide_eq_true c9
       clear c9
       by_cases c10 : x15_1 < (l1.length : Int)
       ·rw [if_pos c10] at H
        have c10b0 : decide (x15_1 < (l1.length : Int)) = true := decide_eq_true c10
        clear c10
        by_cases c11 : (rd l1 x15_1) ≥ (l2.length : Int)
        ·rw [if_pos c11] at H
         have c11b0 : decide ((l2.length : Int) ≤ (rd l1 x15_1)) = true := decide_eq_true c11
         clear c11
         simp only [Option.some.injEq, Prod.mk.injEq] at H
         obtain ⟨rfl, rfl, rfl⟩ := H
         have p552 : 0 ≤ (x15_1 : Int) := of_decide_eq_true (by (with_reducible assumption))
         have q552 : x15_1 < (l1.length : Int) := of_decide_eq_true (by (with_reducible assumption))
         obtain ⟨ad552, e552, hx552_0⟩ := Kd.at_int HR1.out x15_1 p552 q552
         cases e552
         replace hx552_0 := keep_cell HK.out hx552_0 (by (rw [add_block]; exact hf1 _ rfl (by omega)))
         replace p552 := eq_true p552
         replace q552 := eq_true q552
         obtain ⟨ASz12_0, cSz12_0, HGz12, hgz12, HSz12_0⟩ := HI0.out
         have hcz12_0 := cellS75_0 HGz12
         have hcz12_1 := cellS75_1 HGz12
         have hfz12_0 := blk_frozen HGz12 0
         have hfz12_1 := blk_frozen HGz12 1
         have HCSz12_0 := HSz12_0.1
         replace HSz12_0 := HSz12_0.2
         clear HGz12 hgz12
         go_wp2
         go_ret
         exact ⟨_, by rfl, by exact Kd.R_nil _ _ _ _ _, by repeat ((with_reducible first | exact HI0.out | apply IsS75.set_1)), by repeat ((with_reducible first | exact HB.out | refine below_set ?_ (IsS75.ge HI0.out))), by repeat ((with_reducible first | exact HK.out | apply KeepBut.set_ ))⟩
        ·rw [if_neg c11] at H
         have c11b0 : decide ((l2.length : Int) ≤ (rd l1 x15_1)) = false := decide_eq_false c11
         clear c11
         by_cases c13 : 0 ≤ (rd l1 x15_1)
         ·rw [if_pos c13] at H
          have c13b0 : decide (0 ≤ (rd l1 x15_1)) = true := decide_eq_true c13
          clear c13
          by_cases c14 : (rd l1 x15_1) < (l2.length : Int)
          ·rw [if_pos c14] at H
           have c14b0 : decide ((rd l1 x15_1) < (l2.length : Int)) = true := decide_eq_true c14
           clear c14
           by_cases c15 : x15_1 < (x7_1.length : Int)
           ·rw [if_pos c15] at H
            have c15b0 : decide (x15_1 < (x7_1.length : Int)) = true := decide_eq_true c15
            clear c15
            obtain ⟨y554, hy554⟩ : ∃ y_ : List Int, y_ = (x7_1.set (x15_1 : Int).toNat (rd l2 (rd l1 x15_1))) := ⟨_, rfl⟩
            replace H : (peristyleref2_reader_picked.l0 k1 l2 y554 l1 (l1.length : Int) (wrap64 (x15_1 + 1)) s0_0 x1001_1) = some (r1, r2, r3) := by (rw [hy554]; with_reducible exact H)
            have Ny554 := Aside0.mk hy554
            clear hy554
            have H' := Aside0.mk H
            clear H
            have p552 : 0 ≤ (x15_1 : Int) := of_decide_eq_true (by (with_reducible assumption))
            have q552 : x15_1 < (l1.length : Int) := of_decide_eq_true (by (with_reducible assumption))
            obtain ⟨ad552, e552, hx552_0⟩ := Kd.at_int HR1.out x15_1 p552 q552
            cases e552
            replace hx552_0 := keep_cell HK.out hx552_0 (by (rw [add_block]; exact hf1 _ rfl (by omega)))
            replace p552 := eq_true p552
            replace q552 := eq_true q552
            have p553 : 0 ≤ ((rd l1 x15_1) : Int) := of_decide_eq_true (by (with_reducible assumption))
            have q553 : (rd l1 x15_1) < (l2.length : Int) := of_decide_eq_true (by (with_reducible assumption))
            obtain ⟨ad553, e553, hx553_0⟩ := Kd.at_int HR2.out (rd l1 x15_1) p553 q553
            cases e553
            replace hx553_0 := keep_cell HK.out hx553_0 (by (rw [add_block]; exact hf2 _ rfl (by omega)))
            replace p553 := eq_true p553
            replace q553 := eq_true q553
            have p16 : 0 ≤ (x15_1 : Int) := of_decide_eq_true (by (with_reducible assumption))
            have q16 : (x15_1 : Int) < ((x7_1.length : Int) : Int) := of_decide_eq_true (by (with_reducible assumption))
            obtain ⟨go16, co16, eo16, gb16, gl16, cl16, HG16⟩ := Kd.R_form HO_7.out (by omega)
            (cases eo16)
            have GB16 := Aside0.mk gb16
            have GG16 := Aside0.mk HG16
            clear gb16 gl16 HG16
            obtain ⟨hx16_0, hf16_0⟩ := Kd.R_celln 0 HO_7.out (x15_1 : Int) p16 q16
            replace p16 := eq_true p16
            replace q16 := eq_true q16
            have HP17 := Kd.R_putg HO_7.out (x15_1 : Int) (rd l2 (rd l1 x15_1))
            go_wp2_with (first | ((with_reducible refine gate_store (t := 3) (p := 33) rfl ?_); refine store_event (t := 3) (p := 33) (v := ?vo_w18) (w1 := (wr.setCell ⟨go16, (x15_1 : Int).toNat, none⟩ (.int .i64 (rd l2 (rd l1 x15_1))))) ?hg ?ho ?hn ?hr ?_; (case ho => rfl); (case hg => rfl); (case hn => rfl); (case hr => (go_simp; done)); intro w18 hw; have hg : wr.grownBy w18 (some go16) := (by rw [hw]; exact HP17.2); have hp_ : Kd.R (Kd.int .i64) 3 w18 w.heap.size (fun _ => True) (.slice (some ⟨go16, 0, none⟩) x7_1.length co16) y554 := (by rw [hw, Ny554.out]; exact HP17.1); clear HP17; have n0_ := Aside0.mk (hp_); have n1_ := Aside0.mk (IsS75.grown (by exact HI0.out) hg (IsS75.own_ne HI0.out HO_7.out (by decide))); have n2_ := Aside0.mk ((by rw [hw]; exact below_set (HB.out) (Nat.le_trans HL.out GB16.out) : Below w0.heap.size w0 w18)); have n3_ := Aside0.mk (KeepBut.trans (by exact HK.out) (KeepBut.of_grown hg g) (Kd.R_base2 HO_7.out)); clear HO_7; clear HI0; clear HB; clear HK; have HO_7 := n0_; have HI0 := n1_; have HB := n2_; have HK := n3_; clear n0_ n1_ n2_ n3_; clear hg hw hp_))
            go_roundg k1
            case measure => have := HK1.out; omega
            case rel => exact ⟨(y554), (wrap64 (x15_1 + 1)), (x1001_1), (by rfl), H', ⟨by have := HK1.out; omega⟩, ⟨by exact HO_7.out⟩, ⟨by exact HI0.out⟩, ⟨by exact HK.out⟩, ⟨by exact HB.out⟩⟩
           ·rw [if_neg c15] at H
            exact absurd H (by simp)
          ·rw [if_neg c14] at H
           exact absurd H (by simp)
         ·rw [if_neg c13] at H
          exact absurd H (by simp)
       ·rw [if_neg c10] at H
        exact absurd H (by simp)
      ·rw [if_neg c9] at H
       exact absurd H (by simp)
     ·rw [if_neg c8] at H
      have c8b0 : decide (x15_1 < (l1.length : Int)) = false := decide_eq_false c8
      clear c8
      simp only [Option.some.injEq, Prod.mk.injEq] at H
      obtain ⟨rfl, rfl, rfl⟩ := H
      go_wp2
      go_ret
      exact ⟨_, by rfl, by exact HO_7.out, by exact HI0.out, by exact HB.out, by exact HK.out⟩
  ·rw [if_neg c5] at H
   exact absurd H (by simp)
 ·rw [if_neg c4] at H
  exact absurd H (by simp)

end Go.Proofs.Ythhdihnaicggiaa.I
