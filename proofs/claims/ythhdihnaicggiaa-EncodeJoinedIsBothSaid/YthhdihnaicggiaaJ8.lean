/- Printed by a program of this session (wip/tools/printh.py over the kit's printer): Lean functions that answer as the Go functions do, with the proofs of it. No conditions beyond those in each theorem. -/
import Derived.Test.YthhdihnaicggiaaJ0
import Derived.Test.YthhdihnaicggiaaJ1
import Derived.Test.YthhdihnaicggiaaJ4
import Derived.Test.YthhdihnaicggiaaJ5
import Derived.Test.YthhdihnaicggiaaJ6
import Derived.Test.YthhdihnaicggiaaJ7
namespace Go.Proofs.Ythhdihnaicggiaa.J
open Go.RowKit Go.Proofs.YthhdihnaicggiaaW.PrintWords Go.Proofs.YthhdihnaicggiaaW.PrintLast Go.Proofs.YthhdihnaicggiaaW.PrintMore
attribute [local go_sem] max2_int min2_int max_two min_two max_three min_three max_four min_four   -- for this text's walks alone
set_option linter.unusedVariables false
set_option linter.unusedSimpArgs false

/-! ### encode_reader_values: function 80 -/
mutual
def encode_reader_values.j0 : Nat → Int → Int → List Int → Int → Bool → List Int → Bool → Option (List Int × List Int × Bool)
 | 0, _, _, _, _, _, _, _ => none
 | k + 1, x1, x2, x7, x13, x17, x1000, x1001 => if x17 = true then (encode_reader_values.l0 k x1 x2 x7 0 x1000 x1001) else (if x13 = 2 then ((encode_reader_runs.f k x1000 x1001 x2).bind fun bt303 => (some (bt303.1, bt303.2.1, bt303.2.2))) else (if x13 = 3 then ((encode_reader_dict.f k x1000 x1001 x2).bind fun bt308 => (some (bt308.1, bt308.2.1, bt308.2.2))) else (if x13 = 4 then ((encode_reader_number.f k x1000 x1001).bind fun bt313 => ((encode_reader_byte.f bt313.2.1 bt313.2.2).bind fun bt316 => (if bt316.1 > 52 then (encode_reader_values.j3 k x2 x7 bt313.1 bt316.1 bt316.2.1 true) else (encode_reader_values.j3 k x2 x7 bt313.1 bt316.1 bt316.2.1 bt316.2.2)))) else (some (x7, x1000, true)))))
def encode_reader_values.l0 : Nat → Int → Int → List Int → Int → List Int → Bool → Option (List Int × List Int × Bool)
 | 0, _, _, _, _, _, _ => none
 | k + 1, x1, x2, x7, x8, x1000, x1001 => if (x7.length : Int) < x2 then (encode_reader_values.j2 k x1 x2 x7 x8 (!x1001) x1000 x1001) else (encode_reader_values.j2 k x1 x2 x7 x8 false x1000 x1001)
def encode_reader_values.j2 : Nat → Int → Int → List Int → Int → Bool → List Int → Bool → Option (List Int × List Int × Bool)
 | 0, _, _, _, _, _, _, _ => none
 | k + 1, x1, x2, x7, x8, x30, x1000, x1001 => if x30 = true then ((encode_reader_number.f k x1000 x1001).bind fun bt286 => (if x1 = 5 then ((kit_In.f (wrap64 (bt286.1 + x8)) (-1000000000000000) 1000000000000000).bind fun t289 => (if t289 = true then (if x7.length < 17592186044416 then (encode_reader_values.l0 k x1 x2 (x7 ++ [wrap64 (bt286.1 + x8)]) (wrap64 (bt286.1 + x8)) bt286.2.1 bt286.2.2) else (none)) else (if x7.length < 17592186044416 then (encode_reader_values.l0 k x1 x2 (x7 ++ [wrap64 (bt286.1 + x8)]) (wrap64 (bt286.1 + x8)) bt286.2.1 true) else (none)))) else ((kit_In.f bt286.1 (-1000000000000000) 1000000000000000).bind fun t296 => (if t296 = true then (if x7.length < 17592186044416 then (encode_reader_values.l0 k x1 x2 (x7 ++ [bt286.1]) bt286.1 bt286.2.1 bt286.2.2) else (none)) else (if x7.length < 17592186044416 then (encode_reader_values.l0 k x1 x2 (x7 ++ [bt286.1]) bt286.1 bt286.2.1 true) else (none)))))) else (some (x7, x1000, x1001))
def encode_reader_values.j3 : Nat → Int → List Int → Int → Int → List Int → Bool → Option (List Int × List Int × Bool)
 | 0, _, _, _, _, _, _ => none
 | k + 1, x2, x7, x10, x11, x1000, x1001 => if x1001 = true then (encode_reader_values.j4 k x7 x10 x1000 x1001) else ((encode_reader_packed.f k x1000 x1001 x2 x11).bind fun bt319 => (encode_reader_values.j4 k bt319.1 x10 bt319.2.1 bt319.2.2))
def encode_reader_values.j4 : Nat → List Int → Int → List Int → Bool → Option (List Int × List Int × Bool)
 | 0, _, _, _, _ => none
 | k + 1, x7, x10, x1000, x1001 => encode_reader_values.l1 k x7 x10 (x7.length : Int) 0 x1000 x1001
def encode_reader_values.l1 : Nat → List Int → Int → Int → Int → List Int → Bool → Option (List Int × List Int × Bool)
 | 0, _, _, _, _, _, _ => none
 | k + 1, x7, x10, x80, x81, x1000, x1001 => if x81 < x80 then (if 0 ≤ x81 then (if x81 < (x7.length : Int) then (encode_reader_values.l1 k (x7.set (x81 : Int).toNat (wrap64 ((rd x7 x81) + x10))) x10 x80 (wrap64 (x81 + 1)) x1000 x1001) else (none)) else (none)) else (some (x7, x1000, x1001))
end
def encode_reader_values.f (k : Nat) (s0_0 : List Int) (s0_1 : Bool) (a1 : Int) (a2 : Int) : Option (List Int × List Int × Bool) := if a1 = 1 then (encode_reader_values.j0 k a1 a2 ([] : List Int) a1 (a1 == 1) s0_0 s0_1) else (encode_reader_values.j0 k a1 a2 ([] : List Int) a1 (a1 == 5) s0_0 s0_1)
theorem encode_reader_values.mono_l : ∀ k, (∀ y0 y1 y2 y3 y4 y5 y6, LeO (encode_reader_values.j0 k y0 y1 y2 y3 y4 y5 y6) (encode_reader_values.j0 (k + 1) y0 y1 y2 y3 y4 y5 y6)) ∧ (∀ y0 y1 y2 y3 y4 y5, LeO (encode_reader_values.l0 k y0 y1 y2 y3 y4 y5) (encode_reader_values.l0 (k + 1) y0 y1 y2 y3 y4 y5)) ∧ (∀ y0 y1 y2 y3 y4 y5 y6, LeO (encode_reader_values.j2 k y0 y1 y2 y3 y4 y5 y6) (encode_reader_values.j2 (k + 1) y0 y1 y2 y3 y4 y5 y6)) ∧ (∀ y0 y1 y2 y3 y4 y5, LeO (encode_reader_values.j3 k y0 y1 y2 y3 y4 y5) (encode_reader_values.j3 (k + 1) y0 y1 y2 y3 y4 y5)) ∧ (∀ y0 y1 y2 y3, LeO (encode_reader_values.j4 k y0 y1 y2 y3) (encode_reader_values.j4 (k + 1) y0 y1 y2 y3)) ∧ (∀ y0 y1 y2 y3 y4 y5, LeO (encode_reader_values.l1 k y0 y1 y2 y3 y4 y5) (encode_reader_values.l1 (k + 1) y0 y1 y2 y3 y4 y5))
 | 0 => ⟨fun _ _ _ _ _ _ _ r h => by simp [encode_reader_values.j0] at h, fun _ _ _ _ _ _ r h => by simp [encode_reader_values.l0] at h, fun _ _ _ _ _ _ _ r h => by simp [encode_reader_values.j2] at h, fun _ _ _ _ _ _ r h => by simp [encode_reader_values.j3] at h, fun _ _ _ _ r h => by simp [encode_reader_values.j4] at h, fun _ _ _ _ _ _ r h => by simp [encode_reader_values.l1] at h⟩
 | k + 1 => by
  obtain ⟨ih0, ih1, ih2, ih3, ih4, ih5⟩ := encode_reader_values.mono_l k
  refine ⟨?_, ?_, ?_, ?_, ?_, ?_⟩ <;> intros
  all_goals (first | unfold encode_reader_values.j0 | unfold encode_reader_values.l0 | unfold encode_reader_values.j2 | unfold encode_reader_values.j3 | unfold encode_reader_values.j4 | unfold encode_reader_values.l1)
  all_goals
   repeat' first
   | (with_reducible exact ih1 _ _ _ _ _ _)
   | (with_reducible exact ih2 _ _ _ _ _ _ _)
   | (with_reducible exact ih3 _ _ _ _ _ _)
   | (with_reducible exact ih4 _ _ _ _)
   | (with_reducible exact ih5 _ _ _ _ _ _)
   | (with_reducible exact encode_reader_dict.mono _ _ _ _)
   | (with_reducible exact encode_reader_number.mono _ _ _)
   | (with_reducible exact encode_reader_packed.mono _ _ _ _ _)
   | (with_reducible exact encode_reader_runs.mono _ _ _ _)
   | (with_reducible exact LeO.refl _)
   | (with_reducible refine LeO.ite ?_ ?_)
   | (with_reducible refine LeO.bind ?_ (fun _ => ?_))
theorem encode_reader_values.mono : ∀ a0 a1 a2 a3 k, LeO (encode_reader_values.f k a0 a1 a2 a3) (encode_reader_values.f (k + 1) a0 a1 a2 a3) := by
 intro a0 a1 a2 a3 k
 obtain ⟨ih0, ih1, ih2, ih3, ih4, ih5⟩ := encode_reader_values.mono_l k
 unfold encode_reader_values.f
 repeat' first
  | (with_reducible exact ih0 _ _ _ _ _ _ _)
  | (with_reducible refine LeO.ite ?_ ?_)
set_option maxHeartbeats 8000000 in
set_option maxRecDepth 100000 in
theorem encode_reader_values.calls (k : Nat) (g : Nat) (s0_0 : List Int) (s0_1 : Bool) (a1 : Int) (a2 : Int) (r1 : List Int) (r2 : List Int) (r3 : Bool) (w0 w : World) (hI : IsS71 w0 w g s0_0 s0_1) (hB : Below w0.heap.size w0 w) (h : encode_reader_values.f k s0_0 s0_1 a1 a2 = some (r1, r2, r3)) :
 Calls Try.prog 80 #[.pointer (some ⟨g, 0, none⟩), .int .i64 a1, .int .i64 a2] w fun e w' => ∃ v0_ : Value, e = .returned (v0_) ∧ Kd.R (Kd.int .i64) 3 w' w.heap.size (fun _ => True) v0_ r1 ∧ IsS71 w0 w' g r2 r3 ∧ Below w0.heap.size w0 w' ∧ KeepBut w w' g none := by
 have HI0 := Aside0.mk hI
 have HK := Aside0.mk (KeepBut.refl w g none)
 have HL := Aside0.mk hB.size
 clear hI
 have HW0 := Aside0.mk hB.size
 have HB := Aside0.mk hB
 have HBZ := Aside0.mk hB
 clear hB
 have H : (if a1 = 1 then (encode_reader_values.j0 k a1 a2 ([] : List Int) a1 (a1 == 1) s0_0 s0_1) else (encode_reader_values.j0 k a1 a2 ([] : List Int) a1 (a1 == 5) s0_0 s0_1)) = some (r1, r2, r3) := h
 clear h
 have HC4 := Aside0.mk H
 clear H
 go_enter Try.func80, Try.ntmps80
 go_upto_if 17 with (fail)
 go_cut [17] (fun v17 wc => ∃ (kq : Nat) (x17_3 : Bool), v17 = .bool x17_3 ∧ Aside0 (encode_reader_values.j0 kq a1 a2 ([] : List Int) a1 x17_3 s0_0 s0_1 = some (r1, r2, r3)) ∧ Aside0 (kq ≤ k) ∧ Aside0 (Kd.R (Kd.int .i64) 3 wc w.heap.size (fun _ => True) (.slice none 0 0) ([] : List Int)) ∧ Aside0 (IsS71 w0 wc g s0_0 s0_1) ∧ Aside0 (KeepBut w wc g none) ∧ Aside0 (Below w0.heap.size w0 wc))
 case first =>
  have H := HC4.out
  clear HC4
  by_cases c5 : a1 = 1
  ·rw [if_pos c5] at H
   have c5b0 : (a1 == 1) = true := beq_iff_eq.mpr c5
   have c5b1 : (a1 != 1) = false := bne_eq_false_iff_eq.mpr c5
   clear c5
   (rw [c5b0])
   (try rw [c5b1])
   have H' := Aside0.mk H
   clear H
   go_wp2
   go_meet
   case rel => exact ⟨_, ((a1 == 1)), (by (simp [*]; done)), H', ⟨by omega⟩, ⟨by exact Kd.R_nil _ _ _ _ _⟩, ⟨by exact HI0.out⟩, ⟨by exact HK.out⟩, ⟨by exact HB.out⟩⟩
  ·rw [if_neg c5] at H
   have c5b0 : (a1 == 1) = false := beq_eq_false_iff_ne.mpr c5
   have c5b1 : (a1 != 1) = true := bne_iff_ne.mpr c5
   (rw [c5b0])
   (try rw [c5b1])
   have H' := Aside0.mk H
   clear H
   go_wp2
   go_meet
   case rel => exact ⟨_, ((a1 == 5)), (by rfl), H', ⟨by omega⟩, ⟨by exact Kd.R_nil _ _ _ _ _⟩, ⟨by exact HI0.out⟩, ⟨by exact HK.out⟩, ⟨by exact HB.out⟩⟩
 case rest =>
  clear HC4
  obtain ⟨kq, x17_3, rfl, HA, HJ3, HO_7, HI0, HK, HB⟩ := hcut
  cases kq with
  | zero => exact absurd HA.out (by simp [encode_reader_values.j0])
  | succ kj3 =>
   have H := HA.out
   clear HA
   simp only [encode_reader_values.j0] at H
   by_cases c6 : x17_3 = true
   ·subst c6
    have H1 : (encode_reader_values.l0 kj3 a1 a2 ([] : List Int) 0 s0_0 s0_1) = some (r1, r2, r3) := by rw [if_pos rfl] at H; exact H
    clear H
    have H := H1
    clear H1
    have H' := Aside0.mk H
    clear H
    go_wp2
    go_loopg [7, 8] kj3 (fun kq v7 v8 w' => ∃ (x7_2 : List Int) (x8_2 : Int) (x1000_2 : List Int) (x1001_2 : Bool), v8 = .int .i64 x8_2 ∧ Aside0 (encode_reader_values.l0 kq a1 a2 x7_2 x8_2 x1000_2 x1001_2 = some (r1, r2, r3)) ∧ Aside0 (kq ≤ kj3) ∧ Aside0 (Kd.R (Kd.int .i64) 3 w' w.heap.size (fun _ => True) v7 x7_2) ∧ Aside0 (IsS71 w0 w' g x1000_2 x1001_2) ∧ Aside0 (KeepBut w w' g none) ∧ Aside0 (Below w0.heap.size w0 w'))
    case atStart => exact ⟨(([] : List Int)), (0), (s0_0), (s0_1), (by rfl), H', ⟨Nat.le_refl _⟩, ⟨by exact HO_7.out⟩, ⟨by exact HI0.out⟩, ⟨by exact HK.out⟩, ⟨by exact HB.out⟩⟩
    case round =>
     clear H'
     obtain ⟨x7_2, x8_2, x1000_2, x1001_2, rfl, HA, HK2, HO_7, HI0, HK, HB⟩ := hrel
     cases gk with
     | zero => exact absurd HA.out (by simp [encode_reader_values.l0])
     | succ k2 =>
      have H := HA.out
      clear HA
      simp only [encode_reader_values.l0] at H
      have HC7 := Aside0.mk H
      clear H
      go_upto_region 7 with (fail)
      go_cut [30] (fun v30 wc => ∃ (kq : Nat) (x30_6 : Bool), v30 = .bool x30_6 ∧ Aside0 (encode_reader_values.j2 kq a1 a2 x7_2 x8_2 x30_6 x1000_2 x1001_2 = some (r1, r2, r3)) ∧ Aside0 (kq ≤ k2) ∧ Aside0 (Kd.R (Kd.int .i64) 3 wc w.heap.size (fun _ => True) u7 x7_2) ∧ Aside0 (IsS71 w0 wc g x1000_2 x1001_2) ∧ Aside0 (KeepBut w wc g none) ∧ Aside0 (Below w0.heap.size w0 wc))
      case first =>
       have H := HC7.out
       clear HC7
       by_cases c8 : (x7_2.length : Int) < a2
       ·rw [if_pos c8] at H
        have c8b0 : decide ((x7_2.length : Int) < a2) = true := decide_eq_true c8
        clear c8
        (skip)
        (try rw [c8b1])
        have H' := Aside0.mk H
        clear H
        obtain ⟨Ao9, co9, eo9⟩ := Kd.R_slice HO_7.out
        subst eo9
        obtain ⟨ASz10_0, cSz10_0, HGz10, hgz10, HSz10_0⟩ := HI0.out
        have hcz10_0 := cellS71_0 HGz10
        have hcz10_1 := cellS71_1 HGz10
        have hfz10_0 := blk_frozen HGz10 0
        have hfz10_1 := blk_frozen HGz10 1
        have HCSz10_0 := HSz10_0.1
        replace HSz10_0 := HSz10_0.2
        clear HGz10 hgz10
        go_wp2
        go_meet
        case rel => exact ⟨_, (!x1001_2), (by rfl), H', ⟨by have := HJ3.out; have := HK2.out; omega⟩, ⟨by exact HO_7.out⟩, ⟨by exact HI0.out⟩, ⟨by exact HK.out⟩, ⟨by exact HB.out⟩⟩
       ·rw [if_neg c8] at H
        have c8b0 : decide ((x7_2.length : Int) < a2) = false := decide_eq_false c8
        clear c8
        (skip)
        (try rw [c8b1])
        have H' := Aside0.mk H
        clear H
        obtain ⟨Ao11, co11, eo11⟩ := Kd.R_slice HO_7.out
        subst eo11
        go_wp2
        go_meet
        case rel => exact ⟨_, (false), (by rfl), H', ⟨by have := HJ3.out; have := HK2.out; omega⟩, ⟨by exact HO_7.out⟩, ⟨by exact HI0.out⟩, ⟨by exact HK.out⟩, ⟨by exact HB.out⟩⟩
      case rest =>
       clear HC7
       obtain ⟨kq, x30_6, rfl, HA, HJ6, HO_7, HI0, HK, HB⟩ := hcut
       cases kq with
       | zero => exact absurd HA.out (by simp [encode_reader_values.j2])
       | succ kj6 =>
        have H := HA.out
        clear HA
        simp only [encode_reader_values.j2] at H
        by_cases c12 : x30_6 = true
        ·subst c12
         have H1 : ((encode_reader_number.f kj6 x1000_2 x1001_2).bind fun bt286 => (if a1 = 5 then ((kit_In.f (wrap64 (bt286.1 + x8_2)) (-1000000000000000) 1000000000000000).bind fun t289 => (if t289 = true then (if x7_2.length < 17592186044416 then (encode_reader_values.l0 kj6 a1 a2 (x7_2 ++ [wrap64 (bt286.1 + x8_2)]) (wrap64 (bt286.1 + x8_2)) bt286.2.1 bt286.2.2) else (none)) else (if x7_2.length < 17592186044416 then (encode_reader_values.l0 kj6 a1 a2 (x7_2 ++ [wrap64 (bt286.1 + x8_2)]) (wrap64 (bt286.1 + x8_2)) bt286.2.1 true) else (none)))) else ((kit_In.f bt286.1 (-1000000000000000) 1000000000000000).bind fun t296 => (if t296 = true then (if x7_2.length < 17592186044416 then (encode_reader_values.l0 kj6 a1 a2 (x7_2 ++ [bt286.1]) bt286.1 bt286.2.1 bt286.2.2) else (none)) else (if x7_2.length < 17592186044416 then (encode_reader_values.l0 kj6 a1 a2 (x7_2 ++ [bt286.1]) bt286.1 bt286.2.1 true) else (none)))))) = some (r1, r2, r3) := by rw [if_pos rfl] at H; exact H
         clear H
         have H := H1
         clear H1
         replace H := Option.bind_eq_some_iff.mp H
         obtain ⟨⟨t286, t287, t288⟩, A130, H⟩ := H
         replace H : (if a1 = 5 then ((kit_In.f (wrap64 (t286 + x8_2)) (-1000000000000000) 1000000000000000).bind fun t289 => (if t289 = true then (if x7_2.length < 17592186044416 then (encode_reader_values.l0 kj6 a1 a2 (x7_2 ++ [wrap64 (t286 + x8_2)]) (wrap64 (t286 + x8_2)) t287 t288) else (none)) else (if x7_2.length < 17592186044416 then (encode_reader_values.l0 kj6 a1 a2 (x7_2 ++ [wrap64 (t286 + x8_2)]) (wrap64 (t286 + x8_2)) t287 true) else (none)))) else ((kit_In.f t286 (-1000000000000000) 1000000000000000).bind fun t296 => (if t296 = true then (if x7_2.length < 17592186044416 then (encode_reader_values.l0 kj6 a1 a2 (x7_2 ++ [t286]) t286 t287 t288) else (none)) else (if x7_2.length < 17592186044416 then (encode_reader_values.l0 kj6 a1 a2 (x7_2 ++ [t286]) t286 t287 true) else (none))))) = some (r1, r2, r3) := H
         have A13 := Aside0.mk A130
         clear A130
         by_cases c14 : a1 = 5
         ·rw [if_pos c14] at H
          have c14b0 : (a1 == 5) = true := beq_iff_eq.mpr c14
          have c14b1 : (a1 != 5) = false := bne_eq_false_iff_eq.mpr c14
          clear c14
          replace H := Option.bind_eq_some_iff.mp H
          obtain ⟨t289, A150, H⟩ := H
          replace H : (if t289 = true then (if x7_2.length < 17592186044416 then (encode_reader_values.l0 kj6 a1 a2 (x7_2 ++ [wrap64 (t286 + x8_2)]) (wrap64 (t286 + x8_2)) t287 t288) else (none)) else (if x7_2.length < 17592186044416 then (encode_reader_values.l0 kj6 a1 a2 (x7_2 ++ [wrap64 (t286 + x8_2)]) (wrap64 (t286 + x8_2)) t287 true) else (none))) = some (r1, r2, r3) := H
          have A15 := Aside0.mk A150
          clear A150
          by_cases c16 : t289 = true
          ·subst c16
           have H1 : (if x7_2.length < 17592186044416 then (encode_reader_values.l0 kj6 a1 a2 (x7_2 ++ [wrap64 (t286 + x8_2)]) (wrap64 (t286 + x8_2)) t287 t288) else (none)) = some (r1, r2, r3) := by rw [if_pos rfl] at H; exact H
           clear H
           have H := H1
           clear H1
           by_cases c17 : x7_2.length < 17592186044416
           ·rw [if_pos c17] at H
            have LMc17 := Aside0.mk c17
            clear c17
            obtain ⟨y290, hy290⟩ : ∃ y_ : List Int, y_ = (x7_2 ++ [wrap64 (t286 + x8_2)]) := ⟨_, rfl⟩
            replace H : (encode_reader_values.l0 kj6 a1 a2 y290 (wrap64 (t286 + x8_2)) t287 t288) = some (r1, r2, r3) := by (rw [hy290]; with_reducible exact H)
            have Ny290 := Aside0.mk hy290
            clear hy290
            have H' := Aside0.mk H
            clear H
            go_wp2_with (first | ((with_reducible refine gate_callee (f := 111) rfl ?_); refine goesL_ (some 32) rfl rfl Try.func111 (by kernel_rfl) rfl #[.pointer (some ⟨g, 0, none⟩)] rfl (by (try simp only [List.map_toArray, List.map_cons, List.map_nil]); rfl) ?_; (with_reducible refine (encode_reader_number.calls kj6 g x1000_2 x1001_2 t286 t287 t288 w0 _ ?side1 ?side2 A13.out).mono ?_); (case side1 => exact HI0.out); (case side2 => exact HB.out); rintro e w18 ⟨rfl, hi, hb, hk⟩; refine ⟨_, rfl, ?_⟩; have n0_ := Aside0.mk (Kd.R_mono (Kd.R_keep (IsS71.apart (show IsS71 w0 _ g x1000_2 x1001_2 from by exact HI0.out) (by exact HO_7.out) (by decide)) hk (fun _ h => h.2)) (fun _ h => h.1)); have n1_ := Aside0.mk (KeepBut.trans (by exact HK.out) hk (.inl rfl)); have n2_ := Aside0.mk (hb); have n3_ := Aside0.mk (hi); clear HO_7; clear HK; clear HB; clear HI0; have HO_7 := n0_; have HK := n1_; have HB := n2_; have HI0 := n3_; clear n0_ n1_ n2_ n3_; (try clear hb); (try clear hk); (try clear hi)) | ((with_reducible refine gate_callee (f := 52) rfl ?_); refine goesL_ (some 40) rfl rfl Try.func52 (by kernel_rfl) rfl #[.int .i64 (wrap64 (t286 + x8_2)), .int .i64 (-1000000000000000), .int .i64 1000000000000000] rfl (by (try simp only [List.map_toArray, List.map_cons, List.map_nil]); rfl) ?_; (with_reducible refine (kit_In.calls (wrap64 (t286 + x8_2)) (-1000000000000000) 1000000000000000 true _ A15.out).mono ?_); rintro e w' ⟨rfl, ⟨nd, rfl⟩⟩; refine ⟨_, rfl, ?_⟩) | ((with_reducible refine gate_builtin (b := .append) (xs := #[.tmp 45, .tmp 47]) rfl ?_); at_builtin; refine Kd.R_append (Kd.int .i64) w.heap.size rfl (.tmp 45) (.tmp 47) 22 3 (.int .i64 0) 8 rfl Try.underlying22 info3 rfl (by decide) (by omega) u7 x7_2 (wrap64 (t286 + x8_2)) [.int .i64 (wrap64 (t286 + x8_2))] (fun _ => True) (fun _ => False) rfl rfl ?aP (fun _ hk => hk.elim) ?aF ?aO (Below.refl _ _) ?aS ?aL ?_; (case aP => exact rfl); (case aF => exact (fun _ _ => trivial)); (case aO => exact (by (with_reducible repeat (apply Kd.R_drewN)); exact HO_7.out)); (case aS => exact (keep_size (w := w) (g := g) (row := none) (by repeat ((with_reducible first | exact HK.out | apply keep_drewN ))))); (case aL => have := LMc17.out; omega); intro v291 w19 ho hb hg hat; rw [← Ny290.out] at ho; have n0_ := Aside0.mk (IsS71.grown (by repeat ((with_reducible first | exact HI0.out | apply IsS71.drewN ))) hg (IsS71.own_ne HI0.out HO_7.out (by decide))); have n1_ := Aside0.mk (below_weaken (by repeat ((with_reducible first | exact HB.out | apply pw_below_drewN ))) HL.out hb); have n2_ := Aside0.mk (KeepBut.trans (by repeat ((with_reducible first | exact HK.out | apply keep_drewN ))) (KeepBut.of_grown hg g) (Kd.R_base2 HO_7.out)); have n3_ := Aside0.mk (ho); clear HI0; clear HB; clear HK; clear HO_7; have HI0 := n0_; have HB := n1_; have HK := n2_; have HO292 := n3_; clear n0_ n1_ n2_ n3_; clear ho hb hg hat))
            go_roundg kj6
            case measure => have := HJ3.out; have := HK2.out; have := HJ6.out; omega
            case rel => exact ⟨(y290), (wrap64 (t286 + x8_2)), (t287), (t288), (by rfl), H', ⟨by have := HJ3.out; have := HK2.out; have := HJ6.out; omega⟩, ⟨by exact HO292.out⟩, ⟨by exact HI0.out⟩, ⟨by exact HK.out⟩, ⟨by exact HB.out⟩⟩
           ·rw [if_neg c17] at H
            exact absurd H (by simp)
          ·replace c16 := Bool.eq_false_iff.mpr c16
           subst c16
           have H1 : (if x7_2.length < 17592186044416 then (encode_reader_values.l0 kj6 a1 a2 (x7_2 ++ [wrap64 (t286 + x8_2)]) (wrap64 (t286 + x8_2)) t287 true) else (none)) = some (r1, r2, r3) := by rw [if_neg (show ¬ (false = true) by decide)] at H; exact H
           clear H
           have H := H1
           clear H1
           by_cases c20 : x7_2.length < 17592186044416
           ·rw [if_pos c20] at H
            have LMc20 := Aside0.mk c20
            clear c20
            obtain ⟨y293, hy293⟩ : ∃ y_ : List Int, y_ = (x7_2 ++ [wrap64 (t286 + x8_2)]) := ⟨_, rfl⟩
            replace H : (encode_reader_values.l0 kj6 a1 a2 y293 (wrap64 (t286 + x8_2)) t287 true) = some (r1, r2, r3) := by (rw [hy293]; with_reducible exact H)
            have Ny293 := Aside0.mk hy293
            clear hy293
            have H' := Aside0.mk H
            clear H
            go_wp2_with (first | ((with_reducible refine gate_callee (f := 111) rfl ?_); refine goesL_ (some 32) rfl rfl Try.func111 (by kernel_rfl) rfl #[.pointer (some ⟨g, 0, none⟩)] rfl (by (try simp only [List.map_toArray, List.map_cons, List.map_nil]); rfl) ?_; (with_reducible refine (encode_reader_number.calls kj6 g x1000_2 x1001_2 t286 t287 t288 w0 _ ?side1 ?side2 A13.out).mono ?_); (case side1 => exact HI0.out); (case side2 => exact HB.out); rintro e w21 ⟨rfl, hi, hb, hk⟩; refine ⟨_, rfl, ?_⟩; have n0_ := Aside0.mk (Kd.R_mono (Kd.R_keep (IsS71.apart (show IsS71 w0 _ g x1000_2 x1001_2 from by exact HI0.out) (by exact HO_7.out) (by decide)) hk (fun _ h => h.2)) (fun _ h => h.1)); have n1_ := Aside0.mk (KeepBut.trans (by exact HK.out) hk (.inl rfl)); have n2_ := Aside0.mk (hb); have n3_ := Aside0.mk (hi); clear HO_7; clear HK; clear HB; clear HI0; have HO_7 := n0_; have HK := n1_; have HB := n2_; have HI0 := n3_; clear n0_ n1_ n2_ n3_; (try clear hb); (try clear hk); (try clear hi)) | ((with_reducible refine gate_callee (f := 52) rfl ?_); refine goesL_ (some 40) rfl rfl Try.func52 (by kernel_rfl) rfl #[.int .i64 (wrap64 (t286 + x8_2)), .int .i64 (-1000000000000000), .int .i64 1000000000000000] rfl (by (try simp only [List.map_toArray, List.map_cons, List.map_nil]); rfl) ?_; (with_reducible refine (kit_In.calls (wrap64 (t286 + x8_2)) (-1000000000000000) 1000000000000000 false _ A15.out).mono ?_); rintro e w' ⟨rfl, ⟨nd, rfl⟩⟩; refine ⟨_, rfl, ?_⟩; (try (rw [drewN_self w21]; generalize hq_ : World.drewN w21 _ = w21; have n0_ : Aside0 (Kd.R (Kd.int .i64) 3 w21 w.heap.size (fun _ => True) u7 x7_2) := ⟨by rw [← hq_]; exact (by (with_reducible repeat (apply Kd.R_drewN)); exact HO_7.out)⟩; have n1_ : Aside0 (IsS71 w0 w21 g t287 t288) := ⟨by rw [← hq_]; exact (by repeat ((with_reducible first | exact HI0.out | apply IsS71.drewN )))⟩; have n2_ : Aside0 (KeepBut w w21 g none) := ⟨by rw [← hq_]; exact (by repeat ((with_reducible first | exact HK.out | apply keep_drewN )))⟩; have n3_ : Aside0 (Below w0.heap.size w0 w21) := ⟨by rw [← hq_]; exact (by repeat ((with_reducible first | exact HB.out | apply pw_below_drewN )))⟩; clear HO_7 HI0 HK HB hq_; have HO_7 := n0_; have HI0 := n1_; have HK := n2_; have HB := n3_; clear n0_ n1_ n2_ n3_)); obtain ⟨ASz22_0, cSz22_0, HGz22, hgz22, HSz22_0⟩ := HI0.out; have hcz22_0 := cellS71_0 HGz22; have hcz22_1 := cellS71_1 HGz22; have hfz22_0 := blk_frozen HGz22 0; have hfz22_1 := blk_frozen HGz22 1; have HCSz22_0 := HSz22_0.1; replace HSz22_0 := HSz22_0.2; clear HGz22 hgz22) | ((with_reducible refine gate_builtin (b := .append) (xs := #[.tmp 45, .tmp 47]) rfl ?_); at_builtin; refine Kd.R_append (Kd.int .i64) w.heap.size rfl (.tmp 45) (.tmp 47) 22 3 (.int .i64 0) 8 rfl Try.underlying22 info3 rfl (by decide) (by omega) u7 x7_2 (wrap64 (t286 + x8_2)) [.int .i64 (wrap64 (t286 + x8_2))] (fun _ => True) (fun _ => False) rfl (by (go_simp; done)) ?aP (fun _ hk => hk.elim) ?aF ?aO (Below.refl _ _) ?aS ?aL ?_; (case aP => exact rfl); (case aF => exact (fun _ _ => trivial)); (case aO => exact (by exact Kd.R_mono (Kd.R_far (p := ⟨g, 1, none⟩) (IsS71.apart HI0.out HO_7.out (by decide)) (fun _ hk => hk.2) (.bool true)) (fun _ hk => trivial))); (case aS => exact (keep_size (w := w) (g := g) (row := none) (by repeat ((with_reducible first | exact HK.out | apply KeepBut.set_ ))))); (case aL => have := LMc20.out; omega); intro v294 w23 ho hb hg hat; rw [← Ny293.out] at ho; have n0_ := Aside0.mk (IsS71.grown (by repeat ((with_reducible first | exact HI0.out | apply IsS71.set_1))) hg (IsS71.own_ne HI0.out HO_7.out (by decide))); have n1_ := Aside0.mk (below_weaken (by repeat ((with_reducible first | exact HB.out | refine below_set ?_ (IsS71.ge HI0.out)))) HL.out hb); have n2_ := Aside0.mk (KeepBut.trans (by repeat ((with_reducible first | exact HK.out | apply KeepBut.set_ ))) (KeepBut.of_grown hg g) (Kd.R_base2 HO_7.out)); have n3_ := Aside0.mk (ho); clear HI0; clear HB; clear HK; clear HO_7; have HI0 := n0_; have HB := n1_; have HK := n2_; have HO295 := n3_; clear n0_ n1_ n2_ n3_; clear ho hb hg hat))
            go_roundg kj6
            case measure => have := HJ3.out; have := HK2.out; have := HJ6.out; omega
            case rel => exact ⟨(y293), (wrap64 (t286 + x8_2)), (t287), (true), (by rfl), H', ⟨by have := HJ3.out; have := HK2.out; have := HJ6.out; omega⟩, ⟨by exact HO295.out⟩, ⟨by exact HI0.out⟩, ⟨by exact HK.out⟩, ⟨by exact HB.out⟩⟩
           ·rw [if_neg c20] at H
            exact absurd H (by simp)
         ·rw [if_neg c14] at H
          have c14b0 : (a1 == 5) = false := beq_eq_false_iff_ne.mpr c14
          have c14b1 : (a1 != 5) = true := bne_iff_ne.mpr c14
          replace H := Option.bind_eq_some_iff.mp H
          obtain ⟨t296, A240, H⟩ := H
          replace H : (if t296 = true then (if x7_2.length < 17592186044416 then (encode_reader_values.l0 kj6 a1 a2 (x7_2 ++ [t286]) t286 t287 t288) else (none)) else (if x7_2.length < 17592186044416 then (encode_reader_values.l0 kj6 a1 a2 (x7_2 ++ [t286]) t286 t287 true) else (none))) = some (r1, r2, r3) := H
          have A24 := Aside0.mk A240
          clear A240
          by_cases c25 : t296 = true
          ·subst c25
           have H1 : (if x7_2.length < 17592186044416 then (encode_reader_values.l0 kj6 a1 a2 (x7_2 ++ [t286]) t286 t287 t288) else (none)) = some (r1, r2, r3) := by rw [if_pos rfl] at H; exact H
           clear H
           have H := H1
           clear H1
           by_cases c26 : x7_2.length < 17592186044416
           ·rw [if_pos c26] at H
            have LMc26 := Aside0.mk c26
            clear c26
            obtain ⟨y297, hy297⟩ : ∃ y_ : List Int, y_ = (x7_2 ++ [t286]) := ⟨_, rfl⟩
            replace H : (encode_reader_values.l0 kj6 a1 a2 y297 t286 t287 t288) = some (r1, r2, r3) := by (rw [hy297]; with_reducible exact H)
            have Ny297 := Aside0.mk hy297
            clear hy297
            have H' := Aside0.mk H
            clear H
            go_wp2_with (first | ((with_reducible refine gate_callee (f := 111) rfl ?_); refine goesL_ (some 32) rfl rfl Try.func111 (by kernel_rfl) rfl #[.pointer (some ⟨g, 0, none⟩)] rfl (by (try simp only [List.map_toArray, List.map_cons, List.map_nil]); rfl) ?_; (with_reducible refine (encode_reader_number.calls kj6 g x1000_2 x1001_2 t286 t287 t288 w0 _ ?side1 ?side2 A13.out).mono ?_); (case side1 => exact HI0.out); (case side2 => exact HB.out); rintro e w27 ⟨rfl, hi, hb, hk⟩; refine ⟨_, rfl, ?_⟩; have n0_ := Aside0.mk (Kd.R_mono (Kd.R_keep (IsS71.apart (show IsS71 w0 _ g x1000_2 x1001_2 from by exact HI0.out) (by exact HO_7.out) (by decide)) hk (fun _ h => h.2)) (fun _ h => h.1)); have n1_ := Aside0.mk (KeepBut.trans (by exact HK.out) hk (.inl rfl)); have n2_ := Aside0.mk (hb); have n3_ := Aside0.mk (hi); clear HO_7; clear HK; clear HB; clear HI0; have HO_7 := n0_; have HK := n1_; have HB := n2_; have HI0 := n3_; clear n0_ n1_ n2_ n3_; (try clear hb); (try clear hk); (try clear hi)) | ((with_reducible refine gate_callee (f := 52) rfl ?_); refine goesL_ (some 40) rfl rfl Try.func52 (by kernel_rfl) rfl #[.int .i64 t286, .int .i64 (-1000000000000000), .int .i64 1000000000000000] rfl (by (try simp only [List.map_toArray, List.map_cons, List.map_nil]); rfl) ?_; (with_reducible refine (kit_In.calls t286 (-1000000000000000) 1000000000000000 true _ A24.out).mono ?_); rintro e w' ⟨rfl, ⟨nd, rfl⟩⟩; refine ⟨_, rfl, ?_⟩) | ((with_reducible refine gate_builtin (b := .append) (xs := #[.tmp 45, .tmp 47]) rfl ?_); at_builtin; refine Kd.R_append (Kd.int .i64) w.heap.size rfl (.tmp 45) (.tmp 47) 22 3 (.int .i64 0) 8 rfl Try.underlying22 info3 rfl (by decide) (by omega) u7 x7_2 t286 [.int .i64 t286] (fun _ => True) (fun _ => False) rfl rfl ?aP (fun _ hk => hk.elim) ?aF ?aO (Below.refl _ _) ?aS ?aL ?_; (case aP => exact rfl); (case aF => exact (fun _ _ => trivial)); (case aO => exact (by (with_reducible repeat (apply Kd.R_drewN)); exact HO_7.out)); (case aS => exact (keep_size (w := w) (g := g) (row := none) (by repeat ((with_reducible first | exact HK.out | apply keep_drewN ))))); (case aL => have := LMc26.out; omega); intro v298 w28 ho hb hg hat; rw [← Ny297.out] at ho; have n0_ := Aside0.mk (IsS71.grown (by repeat ((with_reducible first | exact HI0.out | apply IsS71.drewN ))) hg (IsS71.own_ne HI0.out HO_7.out (by decide))); have n1_ := Aside0.mk (below_weaken (by repeat ((with_reducible first | exact HB.out | apply pw_below_drewN ))) HL.out hb); have n2_ := Aside0.mk (KeepBut.trans (by repeat ((with_reducible first | exact HK.out | apply keep_drewN ))) (KeepBut.of_grown hg g) (Kd.R_base2 HO_7.out)); have n3_ := Aside0.mk (ho); clear HI0; clear HB; clear HK; clear HO_7; have HI0 := n0_; have HB := n1_; have HK := n2_; have HO299 := n3_; clear n0_ n1_ n2_ n3_; clear ho hb hg hat))
            go_roundg kj6
            case measure => have := HJ3.out; have := HK2.out; have := HJ6.out; omega
            case rel => exact ⟨(y297), (t286), (t287), (t288), (by rfl), H', ⟨by have := HJ3.out; have := HK2.out; have := HJ6.out; omega⟩, ⟨by exact HO299.out⟩, ⟨by exact HI0.out⟩, ⟨by exact HK.out⟩, ⟨by exact HB.out⟩⟩
           ·rw [if_neg c26] at H
            exact absurd H (by simp)
          ·replace c25 := Bool.eq_false_iff.mpr c25
           subst c25
           have H1 : (if x7_2.length < 17592186044416 then (encode_reader_values.l0 kj6 a1 a2 (x7_2 ++ [t286]) t286 t287 true) else (none)) = some (r1, r2, r3) := by rw [if_neg (show ¬ (false = true) by decide)] at H; exact H
           clear H
           have H := H1
           clear H1
           by_cases c29 : x7_2.length < 17592186044416
           ·rw [if_pos c29] at H
            have LMc29 := Aside0.mk c29
            clear c29
            obtain ⟨y300, hy300⟩ : ∃ y_ : List Int, y_ = (x7_2 ++ [t286]) := ⟨_, rfl⟩
            replace H : (encode_reader_values.l0 kj6 a1 a2 y300 t286 t287 true) = some (r1, r2, r3) := by (rw [hy300]; with_reducible exact H)
            have Ny300 := Aside0.mk hy300
            clear hy300
            have H' := Aside0.mk H
            clear H
            go_wp2_with (first | ((with_reducible refine gate_callee (f := 111) rfl ?_); refine goesL_ (some 32) rfl rfl Try.func111 (by kernel_rfl) rfl #[.pointer (some ⟨g, 0, none⟩)] rfl (by (try simp only [List.map_toArray, List.map_cons, List.map_nil]); rfl) ?_; (with_reducible refine (encode_reader_number.calls kj6 g x1000_2 x1001_2 t286 t287 t288 w0 _ ?side1 ?side2 A13.out).mono ?_); (case side1 => exact HI0.out); (case side2 => exact HB.out); rintro e w30 ⟨rfl, hi, hb, hk⟩; refine ⟨_, rfl, ?_⟩; have n0_ := Aside0.mk (Kd.R_mono (Kd.R_keep (IsS71.apart (show IsS71 w0 _ g x1000_2 x1001_2 from by exact HI0.out) (by exact HO_7.out) (by decide)) hk (fun _ h => h.2)) (fun _ h => h.1)); have n1_ := Aside0.mk (KeepBut.trans (by exact HK.out) hk (.inl rfl)); have n2_ := Aside0.mk (hb); have n3_ := Aside0.mk (hi); clear HO_7; clear HK; clear HB; clear HI0; have HO_7 := n0_; have HK := n1_; have HB := n2_; have HI0 := n3_; clear n0_ n1_ n2_ n3_; (try clear hb); (try clear hk); (try clear hi)) | ((with_reducible refine gate_callee (f := 52) rfl ?_); refine goesL_ (some 40) rfl rfl Try.func52 (by kernel_rfl) rfl #[.int .i64 t286, .int .i64 (-1000000000000000), .int .i64 1000000000000000] rfl (by (try simp only [List.map_toArray, List.map_cons, List.map_nil]); rfl) ?_; (with_reducible refine (kit_In.calls t286 (-1000000000000000) 1000000000000000 false _ A24.out).mono ?_); rintro e w' ⟨rfl, ⟨nd, rfl⟩⟩; refine ⟨_, rfl, ?_⟩; (try (rw [drewN_self w30]; generalize hq_ : World.drewN w30 _ = w30; have n0_ : Aside0 (Kd.R (Kd.int .i64) 3 w30 w.heap.size (fun _ => True) u7 x7_2) := ⟨by rw [← hq_]; exact (by (with_reducible repeat (apply Kd.R_drewN)); exact HO_7.out)⟩; have n1_ : Aside0 (IsS71 w0 w30 g t287 t288) := ⟨by rw [← hq_]; exact (by repeat ((with_reducible first | exact HI0.out | apply IsS71.drewN )))⟩; have n2_ : Aside0 (KeepBut w w30 g none) := ⟨by rw [← hq_]; exact (by repeat ((with_reducible first | exact HK.out | apply keep_drewN )))⟩; have n3_ : Aside0 (Below w0.heap.size w0 w30) := ⟨by rw [← hq_]; exact (by repeat ((with_reducible first | exact HB.out | apply pw_below_drewN )))⟩; clear HO_7 HI0 HK HB hq_; have HO_7 := n0_; have HI0 := n1_; have HK := n2_; have HB := n3_; clear n0_ n1_ n2_ n3_)); obtain ⟨ASz31_0, cSz31_0, HGz31, hgz31, HSz31_0⟩ := HI0.out; have hcz31_0 := cellS71_0 HGz31; have hcz31_1 := cellS71_1 HGz31; have hfz31_0 := blk_frozen HGz31 0; have hfz31_1 := blk_frozen HGz31 1; have HCSz31_0 := HSz31_0.1; replace HSz31_0 := HSz31_0.2; clear HGz31 hgz31) | ((with_reducible refine gate_builtin (b := .append) (xs := #[.tmp 45, .tmp 47]) rfl ?_); at_builtin; refine Kd.R_append (Kd.int .i64) w.heap.size rfl (.tmp 45) (.tmp 47) 22 3 (.int .i64 0) 8 rfl Try.underlying22 info3 rfl (by decide) (by omega) u7 x7_2 t286 [.int .i64 t286] (fun _ => True) (fun _ => False) rfl (by (go_simp; done)) ?aP (fun _ hk => hk.elim) ?aF ?aO (Below.refl _ _) ?aS ?aL ?_; (case aP => exact rfl); (case aF => exact (fun _ _ => trivial)); (case aO => exact (by exact Kd.R_mono (Kd.R_far (p := ⟨g, 1, none⟩) (IsS71.apart HI0.out HO_7.out (by decide)) (fun _ hk => hk.2) (.bool true)) (fun _ hk => trivial))); (case aS => exact (keep_size (w := w) (g := g) (row := none) (by repeat ((with_reducible first | exact HK.out | apply KeepBut.set_ ))))); (case aL => have := LMc29.out; omega); intro v301 w32 ho hb hg hat; rw [← Ny300.out] at ho; have n0_ := Aside0.mk (IsS71.grown (by repeat ((with_reducible first | exact HI0.out | apply IsS71.set_1))) hg (IsS71.own_ne HI0.out HO_7.out (by decide))); have n1_ := Aside0.mk (below_weaken (by repeat ((with_reducible first | exact HB.out | refine below_set ?_ (IsS71.ge HI0.out)))) HL.out hb); have n2_ := Aside0.mk (KeepBut.trans (by repeat ((with_reducible first | exact HK.out | apply KeepBut.set_ ))) (KeepBut.of_grown hg g) (Kd.R_base2 HO_7.out)); have n3_ := Aside0.mk (ho); clear HI0; clear HB; clear HK; clear HO_7; have HI0 := n0_; have HB := n1_; have HK := n2_; have HO302 := n3_; clear n0_ n1_ n2_ n3_; clear ho hb hg hat))
            go_roundg kj6
            case measure => have := HJ3.out; have := HK2.out; have := HJ6.out; omega
            case rel => exact ⟨(y300), (t286), (t287), (true), (by rfl), H', ⟨by have := HJ3.out; have := HK2.out; have := HJ6.out; omega⟩, ⟨by exact HO302.out⟩, ⟨by exact HI0.out⟩, ⟨by exact HK.out⟩, ⟨by exact HB.out⟩⟩
           ·rw [if_neg c29] at H
            exact absurd H (by simp)
        ·replace c12 := Bool.eq_false_iff.mpr c12
         subst c12
         have H1 : (some (x7_2, x1000_2, x1001_2)) = some (r1, r2, r3) := by rw [if_neg (show ¬ (false = true) by decide)] at H; exact H
         clear H
         have H := H1
         clear H1
         simp only [Option.some.injEq, Prod.mk.injEq] at H
         obtain ⟨rfl, rfl, rfl⟩ := H
         go_wp2
         go_ret
         exact ⟨_, by rfl, by exact HO_7.out, by exact HI0.out, by exact HB.out, by exact HK.out⟩
   ·replace c6 := Bool.eq_false_iff.mpr c6
    subst c6
    have H1 : (if a1 = 2 then ((encode_reader_runs.f kj3 s0_0 s0_1 a2).bind fun bt303 => (some (bt303.1, bt303.2.1, bt303.2.2))) else (if a1 = 3 then ((encode_reader_dict.f kj3 s0_0 s0_1 a2).bind fun bt308 => (some (bt308.1, bt308.2.1, bt308.2.2))) else (if a1 = 4 then ((encode_reader_number.f kj3 s0_0 s0_1).bind fun bt313 => ((encode_reader_byte.f bt313.2.1 bt313.2.2).bind fun bt316 => (if bt316.1 > 52 then (encode_reader_values.j3 kj3 a2 ([] : List Int) bt313.1 bt316.1 bt316.2.1 true) else (encode_reader_values.j3 kj3 a2 ([] : List Int) bt313.1 bt316.1 bt316.2.1 bt316.2.2)))) else (some (([] : List Int), s0_0, true))))) = some (r1, r2, r3) := by rw [if_neg (show ¬ (false = true) by decide)] at H; exact H
    clear H
    have H := H1
    clear H1
    by_cases c33 : a1 = 2
    ·rw [if_pos c33] at H
     have c33b0 : (a1 == 2) = true := beq_iff_eq.mpr c33
     have c33b1 : (a1 != 2) = false := bne_eq_false_iff_eq.mpr c33
     clear c33
     replace H := Option.bind_eq_some_iff.mp H
     obtain ⟨⟨t303, t306, t307⟩, A340, H⟩ := H
     replace H : (some (t303, t306, t307)) = some (r1, r2, r3) := H
     have A34 := Aside0.mk A340
     clear A340
     simp only [Option.some.injEq, Prod.mk.injEq] at H
     obtain ⟨rfl, rfl, rfl⟩ := H
     go_wp2_with (first | ((with_reducible refine gate_callee (f := 112) rfl ?_); refine goesL_ (some 53) rfl rfl Try.func112 (by kernel_rfl) rfl #[.pointer (some ⟨g, 0, none⟩), .int .i64 a2] rfl (by (try simp only [List.map_toArray, List.map_cons, List.map_nil]); rfl) ?_; (with_reducible refine (encode_reader_runs.calls kj3 g s0_0 s0_1 a2 t303 t306 t307 w0 _ ?side1 ?side2 A34.out).mono ?_); (case side1 => exact HI0.out); (case side2 => exact HB.out); rintro e w35 ⟨v304, rfl, ho0, hi, hb, hk⟩; refine ⟨_, rfl, ?_⟩; have n0_ := Aside0.mk (Kd.R_mono (Kd.R_told (Kd.R_oldK (IsS71.apart (show IsS71 w0 _ g s0_0 s0_1 from by exact HI0.out) (by exact HO_7.out) (by decide)) hk) (Kd.R_base ho0)) (fun _ h_ => h_.1)); have n1_ := Aside0.mk (Kd.R_lower (Kd.R_new' ho0 (Kd.R_lt (by exact HO_7.out))) (keep_size (w := w) (g := g) (row := none) (by exact HK.out))); have n2_ := Aside0.mk (KeepBut.trans (by exact HK.out) hk (.inl rfl)); have n3_ := Aside0.mk (hb); have n4_ := Aside0.mk (hi); clear HO_7; clear HK; clear HB; clear HI0; have HO_7 := n0_; have HO305 := n1_; have HK := n2_; have HB := n3_; have HI0 := n4_; clear n0_ n1_ n2_ n3_ n4_; (try clear hb); (try clear hk); (try clear hi); (try clear ho0)))
     go_ret
     exact ⟨_, by rfl, by exact Kd.R_mono HO305.out (fun _ hk => trivial), by exact HI0.out, by exact HB.out, by exact HK.out⟩
    ·rw [if_neg c33] at H
     have c33b0 : (a1 == 2) = false := beq_eq_false_iff_ne.mpr c33
     have c33b1 : (a1 != 2) = true := bne_iff_ne.mpr c33
     by_cases c36 : a1 = 3
     ·rw [if_pos c36] at H
      have c36b0 : (a1 == 3) = true := beq_iff_eq.mpr c36
      have c36b1 : (a1 != 3) = false := bne_eq_false_iff_eq.mpr c36
      clear c36
      replace H := Option.bind_eq_some_iff.mp H
      obtain ⟨⟨t308, t311, t312⟩, A370, H⟩ := H
      replace H : (some (t308, t311, t312)) = some (r1, r2, r3) := H
      have A37 := Aside0.mk A370
      clear A370
      simp only [Option.some.injEq, Prod.mk.injEq] at H
      obtain ⟨rfl, rfl, rfl⟩ := H
      go_wp2_with (first | ((with_reducible refine gate_callee (f := 113) rfl ?_); refine goesL_ (some 58) rfl rfl Try.func113 (by kernel_rfl) rfl #[.pointer (some ⟨g, 0, none⟩), .int .i64 a2] rfl (by (try simp only [List.map_toArray, List.map_cons, List.map_nil]); rfl) ?_; (with_reducible refine (encode_reader_dict.calls kj3 g s0_0 s0_1 a2 t308 t311 t312 w0 _ ?side1 ?side2 A37.out).mono ?_); (case side1 => exact HI0.out); (case side2 => exact HB.out); rintro e w38 ⟨v309, rfl, ho0, hi, hb, hk⟩; refine ⟨_, rfl, ?_⟩; have n0_ := Aside0.mk (Kd.R_mono (Kd.R_told (Kd.R_oldK (IsS71.apart (show IsS71 w0 _ g s0_0 s0_1 from by exact HI0.out) (by exact HO_7.out) (by decide)) hk) (Kd.R_base ho0)) (fun _ h_ => h_.1)); have n1_ := Aside0.mk (Kd.R_lower (Kd.R_new' ho0 (Kd.R_lt (by exact HO_7.out))) (keep_size (w := w) (g := g) (row := none) (by exact HK.out))); have n2_ := Aside0.mk (KeepBut.trans (by exact HK.out) hk (.inl rfl)); have n3_ := Aside0.mk (hb); have n4_ := Aside0.mk (hi); clear HO_7; clear HK; clear HB; clear HI0; have HO_7 := n0_; have HO310 := n1_; have HK := n2_; have HB := n3_; have HI0 := n4_; clear n0_ n1_ n2_ n3_ n4_; (try clear hb); (try clear hk); (try clear hi); (try clear ho0)))
      go_ret
      exact ⟨_, by rfl, by exact Kd.R_mono HO310.out (fun _ hk => trivial), by exact HI0.out, by exact HB.out, by exact HK.out⟩
     ·rw [if_neg c36] at H
      have c36b0 : (a1 == 3) = false := beq_eq_false_iff_ne.mpr c36
      have c36b1 : (a1 != 3) = true := bne_iff_ne.mpr c36
      by_cases c39 : a1 = 4
      ·rw [if_pos c39] at H
       have c39b0 : (a1 == 4) = true := beq_iff_eq.mpr c39
       have c39b1 : (a1 != 4) = false := bne_eq_false_iff_eq.mpr c39
       clear c39
       replace H := Option.bind_eq_some_iff.mp H
       obtain ⟨⟨t313, t314, t315⟩, A400, H⟩ := H
       replace H : ((encode_reader_byte.f t314 t315).bind fun bt316 => (if bt316.1 > 52 then (encode_reader_values.j3 kj3 a2 ([] : List Int) t313 bt316.1 bt316.2.1 true) else (encode_reader_values.j3 kj3 a2 ([] : List Int) t313 bt316.1 bt316.2.1 bt316.2.2))) = some (r1, r2, r3) := H
       have A40 := Aside0.mk A400
       clear A400
       replace H := Option.bind_eq_some_iff.mp H
       obtain ⟨⟨t316, t317, t318⟩, A410, H⟩ := H
       replace H : (if t316 > 52 then (encode_reader_values.j3 kj3 a2 ([] : List Int) t313 t316 t317 true) else (encode_reader_values.j3 kj3 a2 ([] : List Int) t313 t316 t317 t318)) = some (r1, r2, r3) := H
       have A41 := Aside0.mk A410
       clear A410
       have HC42 := Aside0.mk H
       clear H
       go_upto_if 66 with (first | ((with_reducible refine gate_callee (f := 111) rfl ?_); refine goesL_ (some 62) rfl rfl Try.func111 (by kernel_rfl) rfl #[.pointer (some ⟨g, 0, none⟩)] rfl (by (try simp only [List.map_toArray, List.map_cons, List.map_nil]); rfl) ?_; (with_reducible refine (encode_reader_number.calls kj3 g s0_0 s0_1 t313 t314 t315 w0 _ ?side1 ?side2 A40.out).mono ?_); (case side1 => exact HI0.out); (case side2 => exact HB.out); rintro e w43 ⟨rfl, hi, hb, hk⟩; refine ⟨_, rfl, ?_⟩; have n0_ := Aside0.mk (Kd.R_mono (Kd.R_keep (IsS71.apart (show IsS71 w0 _ g s0_0 s0_1 from by exact HI0.out) (by exact HO_7.out) (by decide)) hk (fun _ h => h.2)) (fun _ h => h.1)); have n1_ := Aside0.mk (KeepBut.trans (by exact HK.out) hk (.inl rfl)); have n2_ := Aside0.mk (hb); have n3_ := Aside0.mk (hi); clear HO_7; clear HK; clear HB; clear HI0; have HO_7 := n0_; have HK := n1_; have HB := n2_; have HI0 := n3_; clear n0_ n1_ n2_ n3_; (try clear hb); (try clear hk); (try clear hi)) | ((with_reducible refine gate_callee (f := 56) rfl ?_); refine goesL_ (some 64) rfl rfl Try.func56 (by kernel_rfl) rfl #[.pointer (some ⟨g, 0, none⟩)] rfl (by (try simp only [List.map_toArray, List.map_cons, List.map_nil]); rfl) ?_; (with_reducible refine (encode_reader_byte.calls g t314 t315 t316 t317 t318 w0 _ ?side1 ?side2 A41.out).mono ?_); (case side1 => exact HI0.out); (case side2 => exact HB.out); rintro e w44 ⟨rfl, hi, hb, hk⟩; refine ⟨_, rfl, ?_⟩; have n0_ := Aside0.mk (Kd.R_mono (Kd.R_keep (IsS71.apart (show IsS71 w0 _ g t314 t315 from by exact HI0.out) (by exact HO_7.out) (by decide)) hk (fun _ h => h.2)) (fun _ h => h.1)); have n1_ := Aside0.mk (KeepBut.trans (by exact HK.out) hk (.inl rfl)); have n2_ := Aside0.mk (hb); have n3_ := Aside0.mk (hi); clear HO_7; clear HK; clear HB; clear HI0; have HO_7 := n0_; have HK := n1_; have HB := n2_; have HI0 := n3_; clear n0_ n1_ n2_ n3_; (try clear hb); (try clear hk); (try clear hi)))
       (try simp only [Act.put, List.setIfInBounds_toArray, List.set_cons_zero, List.set_cons_succ])
       go_cut [] (fun wc => ∃ (kq : Nat) (x1001_41 : Bool), Aside0 (encode_reader_values.j3 kq a2 ([] : List Int) t313 t316 t317 x1001_41 = some (r1, r2, r3)) ∧ Aside0 (kq ≤ kj3) ∧ Aside0 (Kd.R (Kd.int .i64) 3 wc w.heap.size (fun _ => True) (.slice none 0 0) ([] : List Int)) ∧ Aside0 (IsS71 w0 wc g t317 x1001_41) ∧ Aside0 (KeepBut w wc g none) ∧ Aside0 (Below w0.heap.size w0 wc))
       case first =>
        have H := HC42.out
        clear HC42
        by_cases c45 : t316 > 52
        ·rw [if_pos c45] at H
         have c45b0 : decide (52 < t316) = true := decide_eq_true c45
         clear c45
         (rw [c45b0])
         (try rw [c45b1])
         have H' := Aside0.mk H
         clear H
         obtain ⟨ASz46_0, cSz46_0, HGz46, hgz46, HSz46_0⟩ := HI0.out
         have hcz46_0 := cellS71_0 HGz46
         have hcz46_1 := cellS71_1 HGz46
         have hfz46_0 := blk_frozen HGz46 0
         have hfz46_1 := blk_frozen HGz46 1
         have HCSz46_0 := HSz46_0.1
         replace HSz46_0 := HSz46_0.2
         clear HGz46 hgz46
         go_wp2
         go_meet
         case rel => exact ⟨_, (true), H', ⟨by have := HJ3.out; omega⟩, ⟨by exact Kd.R_mono (Kd.R_far (p := ⟨g, 1, none⟩) (IsS71.apart HI0.out HO_7.out (by decide)) (fun _ hk => hk.2) (.bool true)) (fun _ hk => trivial)⟩, ⟨by repeat ((with_reducible first | exact HI0.out | apply IsS71.set_1))⟩, ⟨by repeat ((with_reducible first | exact HK.out | apply KeepBut.set_ ))⟩, ⟨by repeat ((with_reducible first | exact HB.out | refine below_set ?_ (IsS71.ge HI0.out)))⟩⟩
        ·rw [if_neg c45] at H
         have c45b0 : decide (52 < t316) = false := decide_eq_false c45
         clear c45
         (rw [c45b0])
         (try rw [c45b1])
         have H' := Aside0.mk H
         clear H
         go_wp2
         go_meet
         case rel => exact ⟨_, (t318), H', ⟨by have := HJ3.out; omega⟩, ⟨by exact HO_7.out⟩, ⟨by exact HI0.out⟩, ⟨by exact HK.out⟩, ⟨by exact HB.out⟩⟩
       case rest =>
        clear HC42
        try clear c33
        try clear c33b0
        try clear c33b1
        try clear c36
        try clear c36b0
        try clear c36b1
        try clear c39b0
        try clear c39b1
        obtain ⟨kq, x1001_41, HA, HJ41, HO_7, HI0, HK, HB⟩ := hcut
        cases kq with
        | zero => exact absurd HA.out (by simp [encode_reader_values.j3])
        | succ kj41 =>
         have H := HA.out
         clear HA
         simp only [encode_reader_values.j3] at H
         have HC47 := Aside0.mk H
         clear H
         obtain ⟨ASz48_0, cSz48_0, HGz48, hgz48, HSz48_0⟩ := HI0.out
         have hcz48_0 := cellS71_0 HGz48
         have hcz48_1 := cellS71_1 HGz48
         have hfz48_0 := blk_frozen HGz48 0
         have hfz48_1 := blk_frozen HGz48 1
         have HCSz48_0 := HSz48_0.1
         replace HSz48_0 := HSz48_0.2
         clear HGz48 hgz48
         go_upto_if 74 with (fail)
         go_cut [7] (fun v7 wc => ∃ (kq : Nat) (x7_46 : List Int) (x1000_46 : List Int) (x1001_46 : Bool), Aside0 (encode_reader_values.j4 kq x7_46 t313 x1000_46 x1001_46 = some (r1, r2, r3)) ∧ Aside0 (kq ≤ kj41) ∧ Aside0 (Kd.R (Kd.int .i64) 3 wc w.heap.size (fun _ => True) v7 x7_46) ∧ Aside0 (IsS71 w0 wc g x1000_46 x1001_46) ∧ Aside0 (KeepBut w wc g none) ∧ Aside0 (Below w0.heap.size w0 wc))
         case first =>
          have H := HC47.out
          clear HC47
          by_cases c49 : x1001_41 = true
          ·subst c49
           have H1 : (encode_reader_values.j4 kj41 ([] : List Int) t313 t317 true) = some (r1, r2, r3) := by rw [if_pos rfl] at H; exact H
           clear H
           have H := H1
           clear H1
           have H' := Aside0.mk H
           clear H
           go_wp2
           go_meet
           case rel => exact ⟨_, (([] : List Int)), (t317), (true), H', ⟨by have := HJ3.out; have := HJ41.out; omega⟩, ⟨by exact HO_7.out⟩, ⟨by exact HI0.out⟩, ⟨by exact HK.out⟩, ⟨by exact HB.out⟩⟩
          ·replace c49 := Bool.eq_false_iff.mpr c49
           subst c49
           have H1 : ((encode_reader_packed.f kj41 t317 false a2 t316).bind fun bt319 => (encode_reader_values.j4 kj41 bt319.1 t313 bt319.2.1 bt319.2.2)) = some (r1, r2, r3) := by rw [if_neg (show ¬ (false = true) by decide)] at H; exact H
           clear H
           have H := H1
           clear H1
           replace H := Option.bind_eq_some_iff.mp H
           obtain ⟨⟨t319, t322, t323⟩, A500, H⟩ := H
           replace H : (encode_reader_values.j4 kj41 t319 t313 t322 t323) = some (r1, r2, r3) := H
           have A50 := Aside0.mk A500
           clear A500
           have H' := Aside0.mk H
           clear H
           go_wp2_with (first | ((with_reducible refine gate_callee (f := 114) rfl ?_); refine goesL_ (some 78) rfl rfl Try.func114 (by kernel_rfl) rfl #[.pointer (some ⟨g, 0, none⟩), .int .i64 a2, .int .i64 t316] rfl (by (try simp only [List.map_toArray, List.map_cons, List.map_nil]); rfl) ?_; (with_reducible refine (encode_reader_packed.calls kj41 g t317 false a2 t316 t319 t322 t323 w0 _ ?side1 ?side2 A50.out).mono ?_); (case side1 => exact HI0.out); (case side2 => exact HB.out); rintro e w51 ⟨v320, rfl, ho0, hi, hb, hk⟩; refine ⟨_, rfl, ?_⟩; have n0_ := Aside0.mk (Kd.R_mono (Kd.R_told (Kd.R_oldK (IsS71.apart (show IsS71 w0 _ g t317 false from by exact HI0.out) (by exact HO_7.out) (by decide)) hk) (Kd.R_base ho0)) (fun _ h_ => h_.1)); have n1_ := Aside0.mk (Kd.R_lower (Kd.R_new' ho0 (Kd.R_lt (by exact HO_7.out))) (keep_size (w := w) (g := g) (row := none) (by exact HK.out))); have n2_ := Aside0.mk (KeepBut.trans (by exact HK.out) hk (.inl rfl)); have n3_ := Aside0.mk (hb); have n4_ := Aside0.mk (hi); clear HO_7; clear HK; clear HB; clear HI0; have HO_7 := n0_; have HO321 := n1_; have HK := n2_; have HB := n3_; have HI0 := n4_; clear n0_ n1_ n2_ n3_ n4_; (try clear hb); (try clear hk); (try clear hi); (try clear ho0)))
           go_meet
           case rel => exact ⟨_, (t319), (t322), (t323), H', ⟨by have := HJ3.out; have := HJ41.out; omega⟩, ⟨by exact Kd.R_mono HO321.out (fun _ hk => trivial)⟩, ⟨by exact HI0.out⟩, ⟨by exact HK.out⟩, ⟨by exact HB.out⟩⟩
         case rest =>
          clear HC47
          try clear hcz48_0
          try clear hcz48_1
          try clear hfz48_0
          try clear hfz48_1
          obtain ⟨kq, x7_46, x1000_46, x1001_46, HA, HJ46, HO_7, HI0, HK, HB⟩ := hcut
          cases kq with
          | zero => exact absurd HA.out (by simp [encode_reader_values.j4])
          | succ kj46 =>
           have H := HA.out
           clear HA
           simp only [encode_reader_values.j4] at H
           have H' := Aside0.mk H
           clear H
           obtain ⟨Ao52, co52, eo52⟩ := Kd.R_slice HO_7.out
           subst eo52
           go_wp2
           go_loopg [81] kj46 (fun kq v81 w' => ∃ (x7_4 : List Int) (x81_4 : Int), v81 = .int .i64 x81_4 ∧ Aside0 (encode_reader_values.l1 kq x7_4 t313 (x7_46.length : Int) x81_4 x1000_46 x1001_46 = some (r1, r2, r3)) ∧ Aside0 (kq ≤ kj46) ∧ Aside0 (Kd.R (Kd.int .i64) 3 w' w.heap.size (fun _ => True) (.slice Ao52 x7_46.length co52) x7_4) ∧ Aside0 (IsS71 w0 w' g x1000_46 x1001_46) ∧ Aside0 (KeepBut w w' g none) ∧ Aside0 (Below w0.heap.size w0 w'))
           case atStart => exact ⟨(x7_46), (0), (by rfl), H', ⟨Nat.le_refl _⟩, ⟨by exact HO_7.out⟩, ⟨by exact HI0.out⟩, ⟨by exact HK.out⟩, ⟨by exact HB.out⟩⟩
           case round =>
            clear H'
            obtain ⟨x7_4, x81_4, rfl, HA, HK4, HO_7, HI0, HK, HB⟩ := hrel
            have hl7_4 := (Kd.R_reads' HO_7.out).1
            rw [hl7_4] at HO_7
            (try simp only [hl7_4])
            cases gk with
            | zero => exact absurd HA.out (by simp [encode_reader_values.l1])
            | succ k4 =>
             have H := HA.out
             clear HA
             simp only [encode_reader_values.l1] at H
             by_cases c53 : x81_4 < (x7_46.length : Int)
             ·rw [if_pos c53] at H
              have c53b0 : decide (x81_4 < (x7_46.length : Int)) = true := decide_eq_true c53
              have c53l0 := c53b0
              (try rw [hl7_4] at c53l0)
              clear c53
              by_cases c54 : 0 ≤ x81_4
              ·rw [if_pos c54] at H
               have c54b0 : decide (0 ≤ x81_4) = true := decide_eq_true c54
               clear c54
               by_cases c55 : x81_4 < (x7_4.length : Int)
               ·rw [if_pos c55] at H
                have c55b0 : decide (x81_4 < (x7_4.length : Int)) = true := decide_eq_true c55
                have c55l0 := c55b0
                (try rw [hl7_4] at c55l0)
                clear c55
                obtain ⟨y325, hy325⟩ : ∃ y_ : List Int, y_ = (x7_4.set (x81_4 : Int).toNat (wrap64 ((rd x7_4 x81_4) + t313))) := ⟨_, rfl⟩
                replace H : (encode_reader_values.l1 k4 y325 t313 (x7_46.length : Int) (wrap64 (x81_4 + 1)) x1000_46 x1001_46) = some (r1, r2, r3) := by (rw [hy325]; with_reducible exact H)
                have Ny325 := Aside0.mk hy325
                clear hy325
                have H' := Aside0.mk H
                clear H
                have p324 : 0 ≤ (x81_4 : Int) := of_decide_eq_true (by (with_reducible assumption))
                have q324 : x81_4 < (x7_4.length : Int) := of_decide_eq_true (by (with_reducible assumption))
                obtain ⟨ad324, e324, hx324_0⟩ := Kd.at_int (Kd.R_reads' HO_7.out).2.2 x81_4 p324 q324
                cases e324
                replace p324 := eq_true p324
                replace q324 := eq_true q324
                have p56 : 0 ≤ (x81_4 : Int) := of_decide_eq_true (by (with_reducible assumption))
                have q56 : (x81_4 : Int) < ((x7_4.length : Int) : Int) := of_decide_eq_true (by (with_reducible assumption))
                obtain ⟨go56, co56, eo56, gb56, gl56, cl56, HG56⟩ := Kd.R_form HO_7.out (by omega)
                (cases eo56)
                have GB56 := Aside0.mk gb56
                have GG56 := Aside0.mk HG56
                clear gb56 gl56 HG56
                (simp only [add_plain] at hx324_0)
                obtain ⟨hx56_0, hf56_0⟩ := Kd.R_celln 0 HO_7.out (x81_4 : Int) p56 q56
                replace p56 := eq_true p56
                replace q56 := eq_true q56
                have HP57 := Kd.R_putg HO_7.out (x81_4 : Int) (wrap64 ((rd x7_4 x81_4) + t313))
                go_wp2_with (first | ((with_reducible refine gate_store (t := 3) (p := 90) rfl ?_); refine store_event (t := 3) (p := 90) (v := ?vo_w58) (w1 := (wr.setCell ⟨go56, (x81_4 : Int).toNat, none⟩ (.int .i64 (wrap64 ((rd x7_4 x81_4) + t313))))) ?hg ?ho ?hn ?hr ?_; (case ho => rfl); (case hg => rfl); (case hn => rfl); (case hr => (go_simp; done)); intro w58 hw; have hg : wr.grownBy w58 (some go56) := (by rw [hw]; exact HP57.2); have hp_ : Kd.R (Kd.int .i64) 3 w58 w.heap.size (fun _ => True) (.slice (some ⟨go56, 0, none⟩) x7_4.length co52) y325 := (by rw [hw, Ny325.out]; exact HP57.1); clear HP57; have n0_ := Aside0.mk (hp_); have n1_ := Aside0.mk (IsS71.grown (by exact HI0.out) hg (IsS71.own_ne HI0.out HO_7.out (by decide))); have n2_ := Aside0.mk ((by rw [hw]; exact below_set (HB.out) (Nat.le_trans HL.out GB56.out) : Below w0.heap.size w0 w58)); have n3_ := Aside0.mk (KeepBut.trans (by exact HK.out) (KeepBut.of_grown hg g) (Kd.R_base2 HO_7.out)); clear HO_7; clear HI0; clear HB; clear HK; have HO_7 := n0_; have HI0 := n1_; have HB := n2_; have HK := n3_; clear n0_ n1_ n2_ n3_; clear hg hw hp_))
                (try simp only [← hl7_4])
                go_roundg k4
                case measure => have := HJ3.out; have := HJ41.out; have := HJ46.out; have := HK4.out; omega
                case rel => exact ⟨(y325), (wrap64 (x81_4 + 1)), (by rfl), H', ⟨by have := HJ3.out; have := HJ41.out; have := HJ46.out; have := HK4.out; omega⟩, ⟨by (try simp only [hl7_4]); exact HO_7.out⟩, ⟨by exact HI0.out⟩, ⟨by exact HK.out⟩, ⟨by exact HB.out⟩⟩
               ·rw [if_neg c55] at H
                exact absurd H (by simp)
              ·rw [if_neg c54] at H
               exact absurd H (by simp)
             ·rw [if_neg c53] at H
              have c53b0 : decide (x81_4 < (x7_46.length : Int)) = false := decide_eq_false c53
              have c53l0 := c53b0
              (try rw [hl7_4] at c53l0)
              clear c53
              simp only [Option.some.injEq, Prod.mk.injEq] at H
              obtain ⟨rfl, rfl, rfl⟩ := H
              go_wp2
              go_ret
              exact ⟨_, by rfl, by exact HO_7.out, by exact HI0.out, by exact HB.out, by exact HK.out⟩
      ·rw [if_neg c39] at H
       have c39b0 : (a1 == 4) = false := beq_eq_false_iff_ne.mpr c39
       have c39b1 : (a1 != 4) = true := bne_iff_ne.mpr c39
       simp only [Option.some.injEq, Prod.mk.injEq] at H
       obtain ⟨rfl, rfl, rfl⟩ := H
       obtain ⟨ASz59_0, cSz59_0, HGz59, hgz59, HSz59_0⟩ := HI0.out
       have hcz59_0 := cellS71_0 HGz59
       have hcz59_1 := cellS71_1 HGz59
       have hfz59_0 := blk_frozen HGz59 0
       have hfz59_1 := blk_frozen HGz59 1
       have HCSz59_0 := HSz59_0.1
       replace HSz59_0 := HSz59_0.2
       clear HGz59 hgz59
       go_wp2
       go_ret
       exact ⟨_, by rfl, by exact Kd.R_mono (Kd.R_far (p := ⟨g, 1, none⟩) (IsS71.apart HI0.out HO_7.out (by decide)) (fun _ hk => hk.2) (.bool true)) (fun _ hk => trivial), by repeat ((with_reducible first | exact HI0.out | apply IsS71.set_1)), by repeat ((with_reducible first | exact HB.out | refine below_set ?_ (IsS71.ge HI0.out))), by repeat ((with_reducible first | exact HK.out | apply KeepBut.set_ ))⟩

end Go.Proofs.Ythhdihnaicggiaa.J
