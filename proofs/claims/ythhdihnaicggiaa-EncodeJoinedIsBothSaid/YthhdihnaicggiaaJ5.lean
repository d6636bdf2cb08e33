/- Printed by a program of this session (wip/tools/printh.py over the kit's printer): Lean functions that answer as the Go functions do, with the proofs of it. No conditions beyond those in each theorem. -/
import Derived.Test.YthhdihnaicggiaaJ0
import Derived.Test.YthhdihnaicggiaaJ4
namespace Go.Proofs.Ythhdihnaicggiaa.J
open Go.RowKit Go.Proofs.YthhdihnaicggiaaW.PrintWords Go.Proofs.YthhdihnaicggiaaW.PrintLast Go.Proofs.YthhdihnaicggiaaW.PrintMore
attribute [local go_sem] max2_int min2_int max_two min_two max_three min_three max_four min_four   -- for this text's walks alone
set_option linter.unusedVariables false
set_option linter.unusedSimpArgs false

/-! ### encode_reader_runs: function 112 -/
mutual
def encode_reader_runs.l0 : Nat → Int → List Int → List Int → Bool → Option (List Int × List Int × Bool)
 | 0, _, _, _, _ => none
 | k + 1, x1, x5, x1000, x1001 => if (x5.length : Int) < x1 then (encode_reader_runs.j1 k x1 x5 (!x1001) x1000 x1001) else (encode_reader_runs.j1 k x1 x5 false x1000 x1001)
def encode_reader_runs.j1 : Nat → Int → List Int → Bool → List Int → Bool → Option (List Int × List Int × Bool)
 | 0, _, _, _, _, _ => none
 | k + 1, x1, x5, x18, x1000, x1001 => if x18 = true then ((encode_reader_number.f k x1000 x1001).bind fun bt246 => ((encode_reader_count.f k bt246.2.1 bt246.2.2).bind fun bt249 => (if bt249.1 = 0 then (encode_reader_runs.j2 k x1 x5 bt246.1 bt249.1 true bt249.2.1 bt249.2.2) else (encode_reader_runs.j2 k x1 x5 bt246.1 bt249.1 (decide (bt249.1 > (wrap64 (x1 - (x5.length : Int))))) bt249.2.1 bt249.2.2)))) else (some (x5, x1000, x1001))
def encode_reader_runs.j2 : Nat → Int → List Int → Int → Int → Bool → List Int → Bool → Option (List Int × List Int × Bool)
 | 0, _, _, _, _, _, _, _ => none
 | k + 1, x1, x5, x6, x7, x32, x1000, x1001 => if x32 = true then (encode_reader_runs.j3 k x1 x5 x6 x7 x1000 true) else (encode_reader_runs.j3 k x1 x5 x6 x7 x1000 x1001)
def encode_reader_runs.j3 : Nat → Int → List Int → Int → Int → List Int → Bool → Option (List Int × List Int × Bool)
 | 0, _, _, _, _, _, _ => none
 | k + 1, x1, x5, x6, x7, x1000, x1001 => encode_reader_runs.l1 k x1 x5 x6 x7 0 x1000 x1001
def encode_reader_runs.l1 : Nat → Int → List Int → Int → Int → Int → List Int → Bool → Option (List Int × List Int × Bool)
 | 0, _, _, _, _, _, _, _ => none
 | k + 1, x1, x5, x6, x36, x37, x1000, x1001 => if x37 < x36 then (if x1001 = true then (encode_reader_runs.l0 k x1 x5 x1000 x1001) else (if x5.length < 17592186044416 then (encode_reader_runs.l1 k x1 (x5 ++ [x6]) x6 x36 (wrap64 (x37 + 1)) x1000 x1001) else (none))) else (encode_reader_runs.l0 k x1 x5 x1000 x1001)
end
def encode_reader_runs.f (k : Nat) (s0_0 : List Int) (s0_1 : Bool) (a1 : Int) : Option (List Int × List Int × Bool) := encode_reader_runs.l0 k a1 ([] : List Int) s0_0 s0_1
theorem encode_reader_runs.mono_l : ∀ k, (∀ y0 y1 y2 y3, LeO (encode_reader_runs.l0 k y0 y1 y2 y3) (encode_reader_runs.l0 (k + 1) y0 y1 y2 y3)) ∧ (∀ y0 y1 y2 y3 y4, LeO (encode_reader_runs.j1 k y0 y1 y2 y3 y4) (encode_reader_runs.j1 (k + 1) y0 y1 y2 y3 y4)) ∧ (∀ y0 y1 y2 y3 y4 y5 y6, LeO (encode_reader_runs.j2 k y0 y1 y2 y3 y4 y5 y6) (encode_reader_runs.j2 (k + 1) y0 y1 y2 y3 y4 y5 y6)) ∧ (∀ y0 y1 y2 y3 y4 y5, LeO (encode_reader_runs.j3 k y0 y1 y2 y3 y4 y5) (encode_reader_runs.j3 (k + 1) y0 y1 y2 y3 y4 y5)) ∧ (∀ y0 y1 y2 y3 y4 y5 y6, LeO (encode_reader_runs.l1 k y0 y1 y2 y3 y4 y5 y6) (encode_reader_runs.l1 (k + 1) y0 y1 y2 y3 y4 y5 y6))
 | 0 => ⟨fun _ _ _ _ r h => by simp [encode_reader_runs.l0] at h, fun _ _ _ _ _ r h => by simp [encode_reader_runs.j1] at h, fun _ _ _ _ _ _ _ r h => by simp [encode_reader_runs.j2] at h, fun _ _ _ _ _ _ r h => by simp [encode_reader_runs.j3] at h, fun _ _ _ _ _ _ _ r h => by simp [encode_reader_runs.l1] at h⟩
 | k + 1 => by
  obtain ⟨ih0, ih1, ih2, ih3, ih4⟩ := encode_reader_runs.mono_l k
  refine ⟨?_, ?_, ?_, ?_, ?_⟩ <;> intros
  all_goals (first | unfold encode_reader_runs.l0 | unfold encode_reader_runs.j1 | unfold encode_reader_runs.j2 | unfold encode_reader_runs.j3 | unfold encode_reader_runs.l1)
  all_goals
   repeat' first
   | (with_reducible exact ih0 _ _ _ _)
   | (with_reducible exact ih1 _ _ _ _ _)
   | (with_reducible exact ih2 _ _ _ _ _ _ _)
   | (with_reducible exact ih3 _ _ _ _ _ _)
   | (with_reducible exact ih4 _ _ _ _ _ _ _)
   | (with_reducible exact encode_reader_count.mono _ _ _)
   | (with_reducible exact encode_reader_number.mono _ _ _)
   | (with_reducible exact LeO.refl _)
   | (with_reducible refine LeO.ite ?_ ?_)
   | (with_reducible refine LeO.bind ?_ (fun _ => ?_))
theorem encode_reader_runs.mono : ∀ a0 a1 a2 k, LeO (encode_reader_runs.f k a0 a1 a2) (encode_reader_runs.f (k + 1) a0 a1 a2) := by
 intro a0 a1 a2 k
 obtain ⟨ih0, ih1, ih2, ih3, ih4⟩ := encode_reader_runs.mono_l k
 unfold encode_reader_runs.f
 repeat' first
  | (with_reducible exact ih0 _ _ _ _)
set_option maxHeartbeats 8000000 in
set_option maxRecDepth 100000 in
theorem encode_reader_runs.calls (k : Nat) (g : Nat) (s0_0 : List Int) (s0_1 : Bool) (a1 : Int) (r1 : List Int) (r2 : List Int) (r3 : Bool) (w0 w : World) (hI : IsS71 w0 w g s0_0 s0_1) (hB : Below w0.heap.size w0 w) (h : encode_reader_runs.f k s0_0 s0_1 a1 = some (r1, r2, r3)) :
 Calls Try.prog 112 #[.pointer (some ⟨g, 0, none⟩), .int .i64 a1] w fun e w' => ∃ v0_ : Value, e = .returned (v0_) ∧ Kd.R (Kd.int .i64) 3 w' w.heap.size (fun _ => True) v0_ r1 ∧ IsS71 w0 w' g r2 r3 ∧ Below w0.heap.size w0 w' ∧ KeepBut w w' g none := by
 have HI0 := Aside0.mk hI
 have HK := Aside0.mk (KeepBut.refl w g none)
 have HL := Aside0.mk hB.size
 clear hI
 have HW0 := Aside0.mk hB.size
 have HB := Aside0.mk hB
 have HBZ := Aside0.mk hB
 clear hB
 have H : (encode_reader_runs.l0 k a1 ([] : List Int) s0_0 s0_1) = some (r1, r2, r3) := h
 clear h
 have H' := Aside0.mk H
 clear H
 go_enter Try.func112, Try.ntmps112
 go_wp2
 go_loopg [5] k (fun kq v5 w' => ∃ (x5_1 : List Int) (x1000_1 : List Int) (x1001_1 : Bool), Aside0 (encode_reader_runs.l0 kq a1 x5_1 x1000_1 x1001_1 = some (r1, r2, r3)) ∧ Aside0 (kq ≤ k) ∧ Aside0 (Kd.R (Kd.int .i64) 3 w' w.heap.size (fun _ => True) v5 x5_1) ∧ Aside0 (IsS71 w0 w' g x1000_1 x1001_1) ∧ Aside0 (KeepBut w w' g none) ∧ Aside0 (Below w0.heap.size w0 w'))
 case atStart => exact ⟨(([] : List Int)), (s0_0), (s0_1), H', ⟨Nat.le_refl _⟩, ⟨by exact Kd.R_nil _ _ _ _ _⟩, ⟨by exact HI0.out⟩, ⟨by exact HK.out⟩, ⟨by exact HB.out⟩⟩
 case round =>
  clear H'
  obtain ⟨x5_1, x1000_1, x1001_1, HA, HK1, HO_5, HI0, HK, HB⟩ := hrel
  cases gk with
  | zero => exact absurd HA.out (by simp [encode_reader_runs.l0])
  | succ k1 =>
   have H := HA.out
   clear HA
   simp only [encode_reader_runs.l0] at H
   have HC3 := Aside0.mk H
   clear H
   go_upto_region 2 with (fail)
   go_cut [18] (fun v18 wc => ∃ (kq : Nat) (x18_2 : Bool), v18 = .bool x18_2 ∧ Aside0 (encode_reader_runs.j1 kq a1 x5_1 x18_2 x1000_1 x1001_1 = some (r1, r2, r3)) ∧ Aside0 (kq ≤ k1) ∧ Aside0 (Kd.R (Kd.int .i64) 3 wc w.heap.size (fun _ => True) u5 x5_1) ∧ Aside0 (IsS71 w0 wc g x1000_1 x1001_1) ∧ Aside0 (KeepBut w wc g none) ∧ Aside0 (Below w0.heap.size w0 wc))
   case first =>
    have H := HC3.out
    clear HC3
    by_cases c4 : (x5_1.length : Int) < a1
    ·rw [if_pos c4] at H
     have c4b0 : decide ((x5_1.length : Int) < a1) = true := decide_eq_true c4
     clear c4
     (skip)
     (try rw [c4b1])
     have H' := Aside0.mk H
     clear H
     obtain ⟨Ao5, co5, eo5⟩ := Kd.R_slice HO_5.out
     subst eo5
     obtain ⟨ASz6_0, cSz6_0, HGz6, hgz6, HSz6_0⟩ := HI0.out
     have hcz6_0 := cellS71_0 HGz6
     have hcz6_1 := cellS71_1 HGz6
     have hfz6_0 := blk_frozen HGz6 0
     have hfz6_1 := blk_frozen HGz6 1
     have HCSz6_0 := HSz6_0.1
     replace HSz6_0 := HSz6_0.2
     clear HGz6 hgz6
     go_wp2
     go_meet
     case rel => exact ⟨_, (!x1001_1), (by rfl), H', ⟨by have := HK1.out; omega⟩, ⟨by exact HO_5.out⟩, ⟨by exact HI0.out⟩, ⟨by exact HK.out⟩, ⟨by exact HB.out⟩⟩
    ·rw [if_neg c4] at H
     have c4b0 : decide ((x5_1.length : Int) < a1) = false := decide_eq_false c4
     clear c4
     (skip)
     (try rw [c4b1])
     have H' := Aside0.mk H
     clear H
     obtain ⟨Ao7, co7, eo7⟩ := Kd.R_slice HO_5.out
     subst eo7
     go_wp2
     go_meet
     case rel => exact ⟨_, (false), (by rfl), H', ⟨by have := HK1.out; omega⟩, ⟨by exact HO_5.out⟩, ⟨by exact HI0.out⟩, ⟨by exact HK.out⟩, ⟨by exact HB.out⟩⟩
   case rest =>
    clear HC3
    obtain ⟨kq, x18_2, rfl, HA, HJ2, HO_5, HI0, HK, HB⟩ := hcut
    cases kq with
    | zero => exact absurd HA.out (by simp [encode_reader_runs.j1])
    | succ kj2 =>
     have H := HA.out
     clear HA
     simp only [encode_reader_runs.j1] at H
     by_cases c8 : x18_2 = true
     ·subst c8
      have H1 : ((encode_reader_number.f kj2 x1000_1 x1001_1).bind fun bt246 => ((encode_reader_count.f kj2 bt246.2.1 bt246.2.2).bind fun bt249 => (if bt249.1 = 0 then (encode_reader_runs.j2 kj2 a1 x5_1 bt246.1 bt249.1 true bt249.2.1 bt249.2.2) else (encode_reader_runs.j2 kj2 a1 x5_1 bt246.1 bt249.1 (decide (bt249.1 > (wrap64 (a1 - (x5_1.length : Int))))) bt249.2.1 bt249.2.2)))) = some (r1, r2, r3) := by rw [if_pos rfl] at H; exact H
      clear H
      have H := H1
      clear H1
      replace H := Option.bind_eq_some_iff.mp H
      obtain ⟨⟨t246, t247, t248⟩, A90, H⟩ := H
      replace H : ((encode_reader_count.f kj2 t247 t248).bind fun bt249 => (if bt249.1 = 0 then (encode_reader_runs.j2 kj2 a1 x5_1 t246 bt249.1 true bt249.2.1 bt249.2.2) else (encode_reader_runs.j2 kj2 a1 x5_1 t246 bt249.1 (decide (bt249.1 > (wrap64 (a1 - (x5_1.length : Int))))) bt249.2.1 bt249.2.2))) = some (r1, r2, r3) := H
      have A9 := Aside0.mk A90
      clear A90
      replace H := Option.bind_eq_some_iff.mp H
      obtain ⟨⟨t249, t250, t251⟩, A100, H⟩ := H
      replace H : (if t249 = 0 then (encode_reader_runs.j2 kj2 a1 x5_1 t246 t249 true t250 t251) else (encode_reader_runs.j2 kj2 a1 x5_1 t246 t249 (decide (t249 > (wrap64 (a1 - (x5_1.length : Int))))) t250 t251)) = some (r1, r2, r3) := H
      have A10 := Aside0.mk A100
      clear A100
      have HC11 := Aside0.mk H
      clear H
      go_upto_region 4 with (first | ((with_reducible refine gate_callee (f := 111) rfl ?_); refine goesL_ (some 20) rfl rfl Try.func111 (by kernel_rfl) rfl #[.pointer (some ⟨g, 0, none⟩)] rfl (by (try simp only [List.map_toArray, List.map_cons, List.map_nil]); rfl) ?_; (with_reducible refine (encode_reader_number.calls kj2 g x1000_1 x1001_1 t246 t247 t248 w0 _ ?side1 ?side2 A9.out).mono ?_); (case side1 => exact HI0.out); (case side2 => exact HB.out); rintro e w12 ⟨rfl, hi, hb, hk⟩; refine ⟨_, rfl, ?_⟩; have n0_ := Aside0.mk (Kd.R_mono (Kd.R_keep (IsS71.apart (show IsS71 w0 _ g x1000_1 x1001_1 from by exact HI0.out) (by exact HO_5.out) (by decide)) hk (fun _ h => h.2)) (fun _ h => h.1)); have n1_ := Aside0.mk (KeepBut.trans (by exact HK.out) hk (.inl rfl)); have n2_ := Aside0.mk (hb); have n3_ := Aside0.mk (hi); clear HO_5; clear HK; clear HB; clear HI0; have HO_5 := n0_; have HK := n1_; have HB := n2_; have HI0 := n3_; clear n0_ n1_ n2_ n3_; (try clear hb); (try clear hk); (try clear hi)) | ((with_reducible refine gate_callee (f := 57) rfl ?_); refine goesL_ (some 22) rfl rfl Try.func57 (by kernel_rfl) rfl #[.pointer (some ⟨g, 0, none⟩)] rfl (by (try simp only [List.map_toArray, List.map_cons, List.map_nil]); rfl) ?_; (with_reducible refine (encode_reader_count.calls kj2 g t247 t248 t249 t250 t251 w0 _ ?side1 ?side2 A10.out).mono ?_); (case side1 => exact HI0.out); (case side2 => exact HB.out); rintro e w13 ⟨rfl, hi, hb, hk⟩; refine ⟨_, rfl, ?_⟩; have n0_ := Aside0.mk (Kd.R_mono (Kd.R_keep (IsS71.apart (show IsS71 w0 _ g t247 t248 from by exact HI0.out) (by exact HO_5.out) (by decide)) hk (fun _ h => h.2)) (fun _ h => h.1)); have n1_ := Aside0.mk (KeepBut.trans (by exact HK.out) hk (.inl rfl)); have n2_ := Aside0.mk (hb); have n3_ := Aside0.mk (hi); clear HO_5; clear HK; clear HB; clear HI0; have HO_5 := n0_; have HK := n1_; have HB := n2_; have HI0 := n3_; clear n0_ n1_ n2_ n3_; (try clear hb); (try clear hk); (try clear hi)))
      (try simp only [Act.put, List.setIfInBounds_toArray, List.set_cons_zero, List.set_cons_succ])
      go_cut [32] (fun v32 wc => ∃ (kq : Nat) (x32_10 : Bool), v32 = .bool x32_10 ∧ Aside0 (encode_reader_runs.j2 kq a1 x5_1 t246 t249 x32_10 t250 t251 = some (r1, r2, r3)) ∧ Aside0 (kq ≤ kj2) ∧ Aside0 (Kd.R (Kd.int .i64) 3 wc w.heap.size (fun _ => True) u5 x5_1) ∧ Aside0 (IsS71 w0 wc g t250 t251) ∧ Aside0 (KeepBut w wc g none) ∧ Aside0 (Below w0.heap.size w0 wc))
      case first =>
       have H := HC11.out
       clear HC11
       by_cases c14 : t249 = 0
       ·rw [if_pos c14] at H
        have c14b0 : (t249 == 0) = true := beq_iff_eq.mpr c14
        have c14b1 : (t249 != 0) = false := bne_eq_false_iff_eq.mpr c14
        clear c14
        (skip)
        (try rw [c14b1])
        have H' := Aside0.mk H
        clear H
        go_wp2
        go_meet
        case rel => exact ⟨_, (true), (by rfl), H', ⟨by have := HK1.out; have := HJ2.out; omega⟩, ⟨by exact HO_5.out⟩, ⟨by exact HI0.out⟩, ⟨by exact HK.out⟩, ⟨by exact HB.out⟩⟩
       ·rw [if_neg c14] at H
        have c14b0 : (t249 == 0) = false := beq_eq_false_iff_ne.mpr c14
        have c14b1 : (t249 != 0) = true := bne_iff_ne.mpr c14
        (skip)
        (try rw [c14b1])
        have H' := Aside0.mk H
        clear H
        obtain ⟨Ao15, co15, eo15⟩ := Kd.R_slice HO_5.out
        subst eo15
        go_wp2
        go_meet
        case rel => exact ⟨_, (decide (t249 > (wrap64 (a1 - (x5_1.length : Int))))), (by rfl), H', ⟨by have := HK1.out; have := HJ2.out; omega⟩, ⟨by exact HO_5.out⟩, ⟨by exact HI0.out⟩, ⟨by exact HK.out⟩, ⟨by exact HB.out⟩⟩
      case rest =>
       clear HC11
       obtain ⟨kq, x32_10, rfl, HA, HJ10, HO_5, HI0, HK, HB⟩ := hcut
       cases kq with
       | zero => exact absurd HA.out (by simp [encode_reader_runs.j2])
       | succ kj10 =>
        have H := HA.out
        clear HA
        simp only [encode_reader_runs.j2] at H
        have HC16 := Aside0.mk H
        clear H
        go_upto_if 32 with (fail)
        go_cut [] (fun wc => ∃ (kq : Nat) (x1001_15 : Bool), Aside0 (encode_reader_runs.j3 kq a1 x5_1 t246 t249 t250 x1001_15 = some (r1, r2, r3)) ∧ Aside0 (kq ≤ kj10) ∧ Aside0 (Kd.R (Kd.int .i64) 3 wc w.heap.size (fun _ => True) u5 x5_1) ∧ Aside0 (IsS71 w0 wc g t250 x1001_15) ∧ Aside0 (KeepBut w wc g none) ∧ Aside0 (Below w0.heap.size w0 wc))
        case first =>
         have H := HC16.out
         clear HC16
         by_cases c17 : x32_10 = true
         ·subst c17
          have H1 : (encode_reader_runs.j3 kj10 a1 x5_1 t246 t249 t250 true) = some (r1, r2, r3) := by rw [if_pos rfl] at H; exact H
          clear H
          have H := H1
          clear H1
          have H' := Aside0.mk H
          clear H
          obtain ⟨ASz18_0, cSz18_0, HGz18, hgz18, HSz18_0⟩ := HI0.out
          have hcz18_0 := cellS71_0 HGz18
          have hcz18_1 := cellS71_1 HGz18
          have hfz18_0 := blk_frozen HGz18 0
          have hfz18_1 := blk_frozen HGz18 1
          have HCSz18_0 := HSz18_0.1
          replace HSz18_0 := HSz18_0.2
          clear HGz18 hgz18
          go_wp2
          go_meet
          case rel => exact ⟨_, (true), H', ⟨by have := HK1.out; have := HJ2.out; have := HJ10.out; omega⟩, ⟨by exact Kd.R_mono (Kd.R_far (p := ⟨g, 1, none⟩) (IsS71.apart HI0.out HO_5.out (by decide)) (fun _ hk => hk.2) (.bool true)) (fun _ hk => trivial)⟩, ⟨by repeat ((with_reducible first | exact HI0.out | apply IsS71.set_1))⟩, ⟨by repeat ((with_reducible first | exact HK.out | apply KeepBut.set_ ))⟩, ⟨by repeat ((with_reducible first | exact HB.out | refine below_set ?_ (IsS71.ge HI0.out)))⟩⟩
         ·replace c17 := Bool.eq_false_iff.mpr c17
          subst c17
          have H1 : (encode_reader_runs.j3 kj10 a1 x5_1 t246 t249 t250 t251) = some (r1, r2, r3) := by rw [if_neg (show ¬ (false = true) by decide)] at H; exact H
          clear H
          have H := H1
          clear H1
          have H' := Aside0.mk H
          clear H
          go_wp2
          go_meet
          case rel => exact ⟨_, (t251), H', ⟨by have := HK1.out; have := HJ2.out; have := HJ10.out; omega⟩, ⟨by exact HO_5.out⟩, ⟨by exact HI0.out⟩, ⟨by exact HK.out⟩, ⟨by exact HB.out⟩⟩
        case rest =>
         clear HC16
         obtain ⟨kq, x1001_15, HA, HJ15, HO_5, HI0, HK, HB⟩ := hcut
         cases kq with
         | zero => exact absurd HA.out (by simp [encode_reader_runs.j3])
         | succ kj15 =>
          have H := HA.out
          clear HA
          simp only [encode_reader_runs.j3] at H
          have H' := Aside0.mk H
          clear H
          go_wp2
          go_loopg [5, 37] kj15 (fun kq v5 v37 w' => ∃ (x5_5 : List Int) (x37_5 : Int), v37 = .int .i64 x37_5 ∧ Aside0 (encode_reader_runs.l1 kq a1 x5_5 t246 t249 x37_5 t250 x1001_15 = some (r1, r2, r3)) ∧ Aside0 (kq ≤ kj15) ∧ Aside0 (Kd.R (Kd.int .i64) 3 w' w.heap.size (fun _ => True) v5 x5_5) ∧ Aside0 (IsS71 w0 w' g t250 x1001_15) ∧ Aside0 (KeepBut w w' g none) ∧ Aside0 (Below w0.heap.size w0 w'))
          case atStart => exact ⟨(x5_1), (0), (by rfl), H', ⟨Nat.le_refl _⟩, ⟨by exact HO_5.out⟩, ⟨by exact HI0.out⟩, ⟨by exact HK.out⟩, ⟨by exact HB.out⟩⟩
          case round =>
           clear H'
           obtain ⟨x5_5, x37_5, rfl, HA, HK5, HO_5, HI0, HK, HB⟩ := hrel
           cases gk with
           | zero => exact absurd HA.out (by simp [encode_reader_runs.l1])
           | succ k5 =>
            have H := HA.out
            clear HA
            simp only [encode_reader_runs.l1] at H
            by_cases c19 : x37_5 < t249
            ·rw [if_pos c19] at H
             have c19b0 : decide (x37_5 < t249) = true := decide_eq_true c19
             clear c19
             by_cases c20 : x1001_15 = true
             ·subst c20
              have H1 : (encode_reader_runs.l0 k5 a1 x5_5 t250 true) = some (r1, r2, r3) := by rw [if_pos rfl] at H; exact H
              clear H
              have H := H1
              clear H1
              have H' := Aside0.mk H
              clear H
              obtain ⟨ASz21_0, cSz21_0, HGz21, hgz21, HSz21_0⟩ := HI0.out
              have hcz21_0 := cellS71_0 HGz21
              have hcz21_1 := cellS71_1 HGz21
              have hfz21_0 := blk_frozen HGz21 0
              have hfz21_1 := blk_frozen HGz21 1
              have HCSz21_0 := HSz21_0.1
              replace HSz21_0 := HSz21_0.2
              clear HGz21 hgz21
              go_wp2
              go_roundg k5
              case measure => have := HK1.out; have := HJ2.out; have := HJ10.out; have := HJ15.out; have := HK5.out; omega
              case rel => exact ⟨(x5_5), (t250), (true), H', ⟨by have := HK1.out; have := HJ2.out; have := HJ10.out; have := HJ15.out; have := HK5.out; omega⟩, ⟨by exact HO_5.out⟩, ⟨by exact HI0.out⟩, ⟨by exact HK.out⟩, ⟨by exact HB.out⟩⟩
             ·replace c20 := Bool.eq_false_iff.mpr c20
              subst c20
              have H1 : (if x5_5.length < 17592186044416 then (encode_reader_runs.l1 k5 a1 (x5_5 ++ [t246]) t246 t249 (wrap64 (x37_5 + 1)) t250 false) else (none)) = some (r1, r2, r3) := by rw [if_neg (show ¬ (false = true) by decide)] at H; exact H
              clear H
              have H := H1
              clear H1
              by_cases c22 : x5_5.length < 17592186044416
              ·rw [if_pos c22] at H
               have LMc22 := Aside0.mk c22
               clear c22
               obtain ⟨y252, hy252⟩ : ∃ y_ : List Int, y_ = (x5_5 ++ [t246]) := ⟨_, rfl⟩
               replace H : (encode_reader_runs.l1 k5 a1 y252 t246 t249 (wrap64 (x37_5 + 1)) t250 false) = some (r1, r2, r3) := by (rw [hy252]; with_reducible exact H)
               have Ny252 := Aside0.mk hy252
               clear hy252
               have H' := Aside0.mk H
               clear H
               obtain ⟨ASz23_0, cSz23_0, HGz23, hgz23, HSz23_0⟩ := HI0.out
               have hcz23_0 := cellS71_0 HGz23
               have hcz23_1 := cellS71_1 HGz23
               have hfz23_0 := blk_frozen HGz23 0
               have hfz23_1 := blk_frozen HGz23 1
               have HCSz23_0 := HSz23_0.1
               replace HSz23_0 := HSz23_0.2
               clear HGz23 hgz23
               go_wp2_with (first | ((with_reducible refine gate_builtin (b := .append) (xs := #[.tmp 43, .tmp 45]) rfl ?_); (try (refine gate_guard (by rfl) ?_; dsimp only)); at_builtin; refine Kd.R_append (Kd.int .i64) w.heap.size rfl (.tmp 43) (.tmp 45) 22 3 (.int .i64 0) 8 rfl Try.underlying22 info3 rfl (by decide) (by omega) u5 x5_5 t246 [.int .i64 t246] (fun _ => True) (fun _ => False) rfl rfl ?aP (fun _ hk => hk.elim) ?aF ?aO (Below.refl _ _) ?aS ?aL ?_; (case aP => exact rfl); (case aF => exact (fun _ _ => trivial)); (case aO => exact (by exact HO_5.out)); (case aS => exact (keep_size (w := w) (g := g) (row := none) (by exact HK.out))); (case aL => have := LMc22.out; omega); intro v253 w24 ho hb hg hat; rw [← Ny252.out] at ho; have n0_ := Aside0.mk (IsS71.grown (by exact HI0.out) hg (IsS71.own_ne HI0.out HO_5.out (by decide))); have n1_ := Aside0.mk (below_weaken (by exact HB.out) HL.out hb); have n2_ := Aside0.mk (KeepBut.trans (by exact HK.out) (KeepBut.of_grown hg g) (Kd.R_base2 HO_5.out)); have n3_ := Aside0.mk (ho); clear HI0; clear HB; clear HK; clear HO_5; have HI0 := n0_; have HB := n1_; have HK := n2_; have HO254 := n3_; clear n0_ n1_ n2_ n3_; clear ho hb hg hat))
               go_roundg k5
               case measure => have := HK1.out; have := HJ2.out; have := HJ10.out; have := HJ15.out; have := HK5.out; omega
               case rel => exact ⟨(y252), (wrap64 (x37_5 + 1)), (by rfl), H', ⟨by have := HK1.out; have := HJ2.out; have := HJ10.out; have := HJ15.out; have := HK5.out; omega⟩, ⟨by exact HO254.out⟩, ⟨by exact HI0.out⟩, ⟨by exact HK.out⟩, ⟨by exact HB.out⟩⟩
              ·rw [if_neg c22] at H
               exact absurd H (by simp)
            ·rw [if_neg c19] at H
             have c19b0 : decide (x37_5 < t249) = false := decide_eq_false c19
             clear c19
             have H' := Aside0.mk H
             clear H
             go_wp2
             go_roundg k5
             case measure => have := HK1.out; have := HJ2.out; have := HJ10.out; have := HJ15.out; have := HK5.out; omega
             case rel => exact ⟨(x5_5), (t250), (x1001_15), H', ⟨by have := HK1.out; have := HJ2.out; have := HJ10.out; have := HJ15.out; have := HK5.out; omega⟩, ⟨by exact HO_5.out⟩, ⟨by exact HI0.out⟩, ⟨by exact HK.out⟩, ⟨by exact HB.out⟩⟩
     ·replace c8 := Bool.eq_false_iff.mpr c8
      subst c8
      have H1 : (some (x5_1, x1000_1, x1001_1)) = some (r1, r2, r3) := by rw [if_neg (show ¬ (false = true) by decide)] at H; exact H
      clear H
      have H := H1
      clear H1
      simp only [Option.some.injEq, Prod.mk.injEq] at H
      obtain ⟨rfl, rfl, rfl⟩ := H
      go_wp2
      go_ret
      exact ⟨_, by rfl, by exact HO_5.out, by exact HI0.out, by exact HB.out, by exact HK.out⟩

end Go.Proofs.Ythhdihnaicggiaa.J
