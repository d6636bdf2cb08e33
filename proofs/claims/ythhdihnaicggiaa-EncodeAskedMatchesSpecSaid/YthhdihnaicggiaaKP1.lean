/- Printed by a program of this session: Lean functions that answer as the Go functions do, with the proofs of it. No conditions beyond those in each theorem. -/
import Derived.Test.YthhdihnaicggiaaKP0
namespace Go.Proofs.Ythhdihnaicggiaa.K
open Go.RowKit Go.Proofs.YthhdihnaicggiaaW.PrintWords Go.Proofs.YthhdihnaicggiaaW.PrintLast Go.Proofs.YthhdihnaicggiaaW.PrintMore
attribute [local go_sem] max2_int min2_int max_two min_two max_three min_three max_four min_four   -- for this text's walks alone
set_option linter.unusedVariables false
set_option linter.unusedSimpArgs false
mutual
def er_runs.l0 : Nat → Int → List Int → List Int → Bool → Option (List Int × List Int × Bool)
 | 0, _, _, _, _ => none
 | k + 1, x1, x5, x1000, x1001 => if (x5.length : Int) < x1 then (er_runs.j1 k x1 x5 (!x1001) x1000 x1001) else (er_runs.j1 k x1 x5 false x1000 x1001)
def er_runs.j1 : Nat → Int → List Int → Bool → List Int → Bool → Option (List Int × List Int × Bool)
 | 0, _, _, _, _, _ => none
 | k + 1, x1, x5, x18, x1000, x1001 => if x18 = true then ((er_number.f k x1000 x1001).bind fun bt243 => ((er_count.f k bt243.2.1 bt243.2.2).bind fun bt246 => (if bt246.1 = 0 then (er_runs.j2 k x1 x5 bt243.1 bt246.1 true bt246.2.1 bt246.2.2) else (er_runs.j2 k x1 x5 bt243.1 bt246.1 (decide (bt246.1 > (wrap64 (x1 - (x5.length : Int))))) bt246.2.1 bt246.2.2)))) else (some (x5, x1000, x1001))
def er_runs.j2 : Nat → Int → List Int → Int → Int → Bool → List Int → Bool → Option (List Int × List Int × Bool)
 | 0, _, _, _, _, _, _, _ => none
 | k + 1, x1, x5, x6, x7, x32, x1000, x1001 => if x32 = true then (er_runs.j3 k x1 x5 x6 x7 x1000 true) else (er_runs.j3 k x1 x5 x6 x7 x1000 x1001)
def er_runs.j3 : Nat → Int → List Int → Int → Int → List Int → Bool → Option (List Int × List Int × Bool)
 | 0, _, _, _, _, _, _ => none
 | k + 1, x1, x5, x6, x7, x1000, x1001 => er_runs.l1 k x1 x5 x6 x7 0 x1000 x1001
def er_runs.l1 : Nat → Int → List Int → Int → Int → Int → List Int → Bool → Option (List Int × List Int × Bool)
 | 0, _, _, _, _, _, _, _ => none
 | k + 1, x1, x5, x6, x36, x37, x1000, x1001 => if x37 < x36 then (if x1001 = true then (er_runs.l0 k x1 x5 x1000 x1001) else (if x5.length < 17592186044416 then (er_runs.l1 k x1 (x5 ++ [x6]) x6 x36 (wrap64 (x37 + 1)) x1000 x1001) else (none))) else (er_runs.l0 k x1 x5 x1000 x1001)
end
def er_runs.f (k : Nat) (s0_0 : List Int) (s0_1 : Bool) (a1 : Int) : Option (List Int × List Int × Bool) := er_runs.l0 k a1 ([] : List Int) s0_0 s0_1
theorem er_runs.mono_l : ∀ k, (∀ y0 y1 y2 y3, LeO (er_runs.l0 k y0 y1 y2 y3) (er_runs.l0 (k + 1) y0 y1 y2 y3)) ∧ (∀ y0 y1 y2 y3 y4, LeO (er_runs.j1 k y0 y1 y2 y3 y4) (er_runs.j1 (k + 1) y0 y1 y2 y3 y4)) ∧ (∀ y0 y1 y2 y3 y4 y5 y6, LeO (er_runs.j2 k y0 y1 y2 y3 y4 y5 y6) (er_runs.j2 (k + 1) y0 y1 y2 y3 y4 y5 y6)) ∧ (∀ y0 y1 y2 y3 y4 y5, LeO (er_runs.j3 k y0 y1 y2 y3 y4 y5) (er_runs.j3 (k + 1) y0 y1 y2 y3 y4 y5)) ∧ (∀ y0 y1 y2 y3 y4 y5 y6, LeO (er_runs.l1 k y0 y1 y2 y3 y4 y5 y6) (er_runs.l1 (k + 1) y0 y1 y2 y3 y4 y5 y6))
 | 0 => ⟨fun _ _ _ _ r h => by simp [er_runs.l0] at h, fun _ _ _ _ _ r h => by simp [er_runs.j1] at h, fun _ _ _ _ _ _ _ r h => by simp [er_runs.j2] at h, fun _ _ _ _ _ _ r h => by simp [er_runs.j3] at h, fun _ _ _ _ _ _ _ r h => by simp [er_runs.l1] at h⟩
 | k + 1 => by
  obtain ⟨ih0, ih1, ih2, ih3, ih4⟩ := er_runs.mono_l k
  refine ⟨?_, ?_, ?_, ?_, ?_⟩ <;> intros
  all_goals (first | unfold er_runs.l0 | unfold er_runs.j1 | unfold er_runs.j2 | unfold er_runs.j3 | unfold er_runs.l1)
  all_goals
   repeat' first
   | (with_reducible exact ih0 _ _ _ _)
   | (with_reducible exact ih1 _ _ _ _ _)
   | (with_reducible exact ih2 _ _ _ _ _ _ _)
   | (with_reducible exact ih3 _ _ _ _ _ _)
   | (with_reducible exact ih4 _ _ _ _ _ _ _)
   | (with_reducible exact er_count.mono _ _ _)
   | (with_reducible exact er_number.mono _ _ _)
   | (with_reducible exact LeO.refl _)
   | (with_reducible refine LeO.ite ?_ ?_)
   | (with_reducible refine LeO.bind ?_ (fun _ => ?_))
theorem er_runs.mono : ∀ a0 a1 a2 k, LeO (er_runs.f k a0 a1 a2) (er_runs.f (k + 1) a0 a1 a2) := by
 intro a0 a1 a2 k
 obtain ⟨ih0, ih1, ih2, ih3, ih4⟩ := er_runs.mono_l k
 unfold er_runs.f
 repeat' first
  | (with_reducible exact ih0 _ _ _ _)
set_option maxHeartbeats 8000000 in
set_option maxRecDepth 100000 in
theorem er_runs.calls (k : Nat) (g : Nat) (s0_0 : List Int) (s0_1 : Bool) (a1 : Int) (r1 : List Int) (r2 : List Int) (r3 : Bool) (w0 w : World) (hI : IsS71 w0 w g s0_0 s0_1) (hB : Below w0.heap.size w0 w) (h : er_runs.f k s0_0 s0_1 a1 = some (r1, r2, r3)) :
 Calls Try.prog 112 #[.pointer (some ⟨g, 0, none⟩), .int .i64 a1] w fun e w' => ∃ v0_ : Value, e = .returned (v0_) ∧ Kd.R (Kd.int .i64) 3 w' w.heap.size (fun _ => True) v0_ r1 ∧ IsS71 w0 w' g r2 r3 ∧ Below w0.heap.size w0 w' ∧ KeepBut w w' g none := by
 have HI0 := Ak hI
 have HK := Ak (KeepBut.refl w g none)
 have HL := Ak hB.size
 clear hI
 have HW0 := Ak hB.size
 have HB := Ak hB
 have HBZ := Ak hB
 clear hB
 have H : (er_runs.l0 k a1 ([] : List Int) s0_0 s0_1) = some (r1, r2, r3) := h
 clear h
 have H' := Ak H
 clear H
 go_enter Try.func112, Try.ntmps112
 go_wp2
 go_loopg [5] k (fun kq v5 w' => ∃ (x5_1 : List Int) (x1000_1 : List Int) (x1001_1 : Bool), Aside0 (er_runs.l0 kq a1 x5_1 x1000_1 x1001_1 = some (r1, r2, r3)) ∧ Aside0 (kq ≤ k) ∧ Aside0 (Kd.R (Kd.int .i64) 3 w' w.heap.size (fun _ => True) v5 x5_1) ∧ Aside0 (IsS71 w0 w' g x1000_1 x1001_1) ∧ Aside0 (KeepBut w w' g none) ∧ Aside0 (Below w0.heap.size w0 w'))
 case atStart => exact ⟨(([] : List Int)), (s0_0), (s0_1), H', ⟨Nat.le_refl _⟩, ⟨by exact Kd.R_nil _ _ _ _ _⟩, ⟨by exact HI0.out⟩, ⟨by exact HK.out⟩, ⟨by exact HB.out⟩⟩
 case round =>
  clear H'
  obtain ⟨x5_1, x1000_1, x1001_1, HA, HK1, HO_5, HI0, HK, HB⟩ := hrel
  cases gk with
  | zero => exact absurd HA.out (by simp [er_runs.l0])
  | succ k1 =>
   have H := HA.out
   clear HA
   simp only [er_runs.l0] at H
   have HC3 := Ak H
   clear H
   go_upto_region 2 with (fail)
   go_cut [18] (fun v18 wc => ∃ (kq : Nat) (x18_2 : Bool), v18 = .bool x18_2 ∧ Aside0 (er_runs.j1 kq a1 x5_1 x18_2 x1000_1 x1001_1 = some (r1, r2, r3)) ∧ Aside0 (kq ≤ k1) ∧ Aside0 (Kd.R (Kd.int .i64) 3 wc w.heap.size (fun _ => True) u5 x5_1) ∧ Aside0 (IsS71 w0 wc g x1000_1 x1001_1) ∧ Aside0 (KeepBut w wc g none) ∧ Aside0 (Below w0.heap.size w0 wc))
   case first =>
    have H := HC3.out
    clear HC3
    by_cases c4 : (x5_1.length : Int) < a1
    ·rw [if_pos c4] at H
     have c4b0 : decide ((x5_1.length : Int) < a1) = true := decide_eq_true c4
     clear c4
     (skip)
     (try rw [c4b1])
     have H' := Ak H
     clear H
     obtain ⟨Ao5, co5, eo5⟩ := Kd.R_slice HO_5.out
     subst eo5
     obtain ⟨ASz6_0, cSz6_0, HGz6, hgz6, HSz6_0⟩ := HI0.out
     have hcz6_0 := cellS71_0 HGz6
     have hcz6_1 := cellS71_1 HGz6
     have hfz6_0 := blk_frozen HGz6 0
     have hfz6_1 := blk_frozen HGz6 1
     have HCSz6_0 := HSz6_0.1
     replace HSz6_0 := HSz6_0.2
     clear HGz6 hgz6
     go_wp2
     go_meet
     case rel => exact ⟨_, (!x1001_1), (by rfl), H', ⟨by have := HK1.out; omega⟩, ⟨by exact HO_5.out⟩, ⟨by exact HI0.out⟩, ⟨by exact HK.out⟩, ⟨by exact HB.out⟩⟩
    ·rw [if_neg c4] at H
     have c4b0 : decide ((x5_1.length : Int) < a1) = false := decide_eq_false c4
     clear c4
     (skip)
     (try rw [c4b1])
     have H' := Ak H
     clear H
     obtain ⟨Ao7, co7, eo7⟩ := Kd.R_slice HO_5.out
     subst eo7
     go_wp2
     go_meet
     case rel => exact ⟨_, (false), (by rfl), H', ⟨by have := HK1.out; omega⟩, ⟨by exact HO_5.out⟩, ⟨by exact HI0.out⟩, ⟨by exact HK.out⟩, ⟨by exact HB.out⟩⟩
   case rest =>
    clear HC3
    obtain ⟨kq, x18_2, rfl, HA, HJ2, HO_5, HI0, HK, HB⟩ := hcut
    cases kq with
    | zero => exact absurd HA.out (by simp [er_runs.j1])
    | succ kj2 =>
     have H := HA.out
     clear HA
     simp only [er_runs.j1] at H
     by_cases c8 : x18_2 = true
     ·subst c8
      replace H : ((er_number.f kj2 x1000_1 x1001_1).bind fun bt243 => ((er_count.f kj2 bt243.2.1 bt243.2.2).bind fun bt246 => (if bt246.1 = 0 then (er_runs.j2 kj2 a1 x5_1 bt243.1 bt246.1 true bt246.2.1 bt246.2.2) else (er_runs.j2 kj2 a1 x5_1 bt243.1 bt246.1 (decide (bt246.1 > (wrap64 (a1 - (x5_1.length : Int))))) bt246.2.1 bt246.2.2)))) = some (r1, r2, r3) := by rw [if_pos rfl] at H; exact H
      replace H := Option.bind_eq_some_iff.mp H
      obtain ⟨⟨t243, t244, t245⟩, A90, H⟩ := H
      replace H : ((er_count.f kj2 t244 t245).bind fun bt246 => (if bt246.1 = 0 then (er_runs.j2 kj2 a1 x5_1 t243 bt246.1 true bt246.2.1 bt246.2.2) else (er_runs.j2 kj2 a1 x5_1 t243 bt246.1 (decide (bt246.1 > (wrap64 (a1 - (x5_1.length : Int))))) bt246.2.1 bt246.2.2))) = some (r1, r2, r3) := H
      have A9 := Ak A90
      clear A90
      replace H := Option.bind_eq_some_iff.mp H
      obtain ⟨⟨t246, t247, t248⟩, A100, H⟩ := H
      replace H : (if t246 = 0 then (er_runs.j2 kj2 a1 x5_1 t243 t246 true t247 t248) else (er_runs.j2 kj2 a1 x5_1 t243 t246 (decide (t246 > (wrap64 (a1 - (x5_1.length : Int))))) t247 t248)) = some (r1, r2, r3) := H
      have A10 := Ak A100
      clear A100
      have HC11 := Ak H
      clear H
      go_upto_region 4 with (first | ((with_reducible refine gate_callee (f := 111) rfl ?_); refine goesL_ (some 20) rfl rfl Try.func111 (by kernel_rfl) rfl #[.pointer (some ⟨g, 0, none⟩)] rfl (by (try simp only [lm]); rfl) ?_; (with_reducible refine (er_number.calls kj2 g x1000_1 x1001_1 t243 t244 t245 w0 _ ?side1 ?side2 A9.out).mono ?_); (case side1 => exact HI0.out); (case side2 => exact HB.out); rintro e w12 ⟨rfl, hi, hb, hk⟩; refine ⟨_, rfl, ?_⟩; have n0_ := Ak (Kd.R_mono (Kd.R_keep (IsS71.apart (show IsS71 w0 _ g x1000_1 x1001_1 from by exact HI0.out) (by exact HO_5.out) (by decide)) hk (fun _ h => h.2)) (fun _ h => h.1)); have n1_ := Ak (KeepBut.trans (by exact HK.out) hk (.inl rfl)); have n2_ := Ak (hb); have n3_ := Ak (hi); clear HO_5 HK HB HI0; have HO_5 := n0_; have HK := n1_; have HB := n2_; have HI0 := n3_; clear n0_ n1_ n2_ n3_; (try clear hb); (try clear hk); (try clear hi)) | ((with_reducible refine gate_callee (f := 57) rfl ?_); refine goesL_ (some 22) rfl rfl Try.func57 (by kernel_rfl) rfl #[.pointer (some ⟨g, 0, none⟩)] rfl (by (try simp only [lm]); rfl) ?_; (with_reducible refine (er_count.calls kj2 g t244 t245 t246 t247 t248 w0 _ ?side1 ?side2 A10.out).mono ?_); (case side1 => exact HI0.out); (case side2 => exact HB.out); rintro e w13 ⟨rfl, hi, hb, hk⟩; refine ⟨_, rfl, ?_⟩; have n0_ := Ak (Kd.R_mono (Kd.R_keep (IsS71.apart (show IsS71 w0 _ g t244 t245 from by exact HI0.out) (by exact HO_5.out) (by decide)) hk (fun _ h => h.2)) (fun _ h => h.1)); have n1_ := Ak (KeepBut.trans (by exact HK.out) hk (.inl rfl)); have n2_ := Ak (hb); have n3_ := Ak (hi); clear HO_5 HK HB HI0; have HO_5 := n0_; have HK := n1_; have HB := n2_; have HI0 := n3_; clear n0_ n1_ n2_ n3_; (try clear hb); (try clear hk); (try clear hi)))
      (try simp only [Act.put, List.setIfInBounds_toArray, List.set_cons_zero, List.set_cons_succ])
      go_cut [32] (fun v32 wc => ∃ (kq : Nat) (x32_10 : Bool), v32 = .bool x32_10 ∧ Aside0 (er_runs.j2 kq a1 x5_1 t243 t246 x32_10 t247 t248 = some (r1, r2, r3)) ∧ Aside0 (kq ≤ kj2) ∧ Aside0 (Kd.R (Kd.int .i64) 3 wc w.heap.size (fun _ => True) u5 x5_1) ∧ Aside0 (IsS71 w0 wc g t247 t248) ∧ Aside0 (KeepBut w wc g none) ∧ Aside0 (Below w0.heap.size w0 wc))
      case first =>
       have H := HC11.out
       clear HC11
       by_cases c14 : t246 = 0
       ·rw [if_pos c14] at H
        have c14b0 : (t246 == 0) = true := beq_iff_eq.mpr c14
        have c14b1 : (t246 != 0) = false := bne_eq_false_iff_eq.mpr c14
        clear c14
        (skip)
        (try rw [c14b1])
        have H' := Ak H
        clear H
        go_wp2
        go_meet
        case rel => exact ⟨_, (true), (by rfl), H', ⟨by have := HK1.out; have := HJ2.out; omega⟩, ⟨by exact HO_5.out⟩, ⟨by exact HI0.out⟩, ⟨by exact HK.out⟩, ⟨by exact HB.out⟩⟩
       ·rw [if_neg c14] at H
        have c14b0 : (t246 == 0) = false := beq_eq_false_iff_ne.mpr c14
        have c14b1 : (t246 != 0) = true := bne_iff_ne.mpr c14
        (skip)
        (try rw [c14b1])
        have H' := Ak H
        clear H
        obtain ⟨Ao15, co15, eo15⟩ := Kd.R_slice HO_5.out
        subst eo15
        go_wp2
        go_meet
        case rel => exact ⟨_, (decide (t246 > (wrap64 (a1 - (x5_1.length : Int))))), (by rfl), H', ⟨by have := HK1.out; have := HJ2.out; omega⟩, ⟨by exact HO_5.out⟩, ⟨by exact HI0.out⟩, ⟨by exact HK.out⟩, ⟨by exact HB.out⟩⟩
      case rest =>
       clear HC11
       obtain ⟨kq, x32_10, rfl, HA, HJ10, HO_5, HI0, HK, HB⟩ := hcut
       cases kq with
       | zero => exact absurd HA.out (by simp [er_runs.j2])
       | succ kj10 =>
        have H := HA.out
        clear HA
        simp only [er_runs.j2] at H
        have HC16 := Ak H
        clear H
        go_upto_if 32 with (fail)
        go_cut [] (fun wc => ∃ (kq : Nat) (x1001_15 : Bool), Aside0 (er_runs.j3 kq a1 x5_1 t243 t246 t247 x1001_15 = some (r1, r2, r3)) ∧ Aside0 (kq ≤ kj10) ∧ Aside0 (Kd.R (Kd.int .i64) 3 wc w.heap.size (fun _ => True) u5 x5_1) ∧ Aside0 (IsS71 w0 wc g t247 x1001_15) ∧ Aside0 (KeepBut w wc g none) ∧ Aside0 (Below w0.heap.size w0 wc))
        case first =>
         have H := HC16.out
         clear HC16
         by_cases c17 : x32_10 = true
         ·subst c17
          replace H : (er_runs.j3 kj10 a1 x5_1 t243 t246 t247 true) = some (r1, r2, r3) := by rw [if_pos rfl] at H; exact H
          have H' := Ak H
          clear H
          obtain ⟨ASz18_0, cSz18_0, HGz18, hgz18, HSz18_0⟩ := HI0.out
          have hcz18_0 := cellS71_0 HGz18
          have hcz18_1 := cellS71_1 HGz18
          have hfz18_0 := blk_frozen HGz18 0
          have hfz18_1 := blk_frozen HGz18 1
          have HCSz18_0 := HSz18_0.1
          replace HSz18_0 := HSz18_0.2
          clear HGz18 hgz18
          go_wp2
          go_meet
          case rel => exact ⟨_, (true), H', ⟨by have := HK1.out; have := HJ2.out; have := HJ10.out; omega⟩, ⟨by exact Kd.R_mono (Kd.R_far (p := ⟨g, 1, none⟩) (IsS71.apart HI0.out HO_5.out (by decide)) (fun _ hk => hk.2) (.bool true)) (fun _ hk => trivial)⟩, ⟨by repeat ((with_reducible first | exact HI0.out | apply IsS71.set_1))⟩, ⟨by repeat ((with_reducible first | exact HK.out | apply KeepBut.set_ ))⟩, ⟨by repeat ((with_reducible first | exact HB.out | refine below_set ?_ (IsS71.ge HI0.out)))⟩⟩
         ·replace c17 := Bool.eq_false_iff.mpr c17
          subst c17
          replace H : (er_runs.j3 kj10 a1 x5_1 t243 t246 t247 t248) = some (r1, r2, r3) := by rw [if_neg (show ¬ (false = true) by decide)] at H; exact H
          have H' := Ak H
          clear H
          go_wp2
          go_meet
          case rel => exact ⟨_, (t248), H', ⟨by have := HK1.out; have := HJ2.out; have := HJ10.out; omega⟩, ⟨by exact HO_5.out⟩, ⟨by exact HI0.out⟩, ⟨by exact HK.out⟩, ⟨by exact HB.out⟩⟩
        case rest =>
         clear HC16
         obtain ⟨kq, x1001_15, HA, HJ15, HO_5, HI0, HK, HB⟩ := hcut
         cases kq with
         | zero => exact absurd HA.out (by simp [er_runs.j3])
         | succ kj15 =>
          have H := HA.out
          clear HA
          simp only [er_runs.j3] at H
          have H' := Ak H
          clear H
          go_wp2
          go_loopg [5, 37] kj15 (fun kq v5 v37 w' => ∃ (x5_5 : List Int) (x37_5 : Int), v37 = .int .i64 x37_5 ∧ Aside0 (er_runs.l1 kq a1 x5_5 t243 t246 x37_5 t247 x1001_15 = some (r1, r2, r3)) ∧ Aside0 (kq ≤ kj15) ∧ Aside0 (Kd.R (Kd.int .i64) 3 w' w.heap.size (fun _ => True) v5 x5_5) ∧ Aside0 (IsS71 w0 w' g t247 x1001_15) ∧ Aside0 (KeepBut w w' g none) ∧ Aside0 (Below w0.heap.size w0 w'))
          case atStart => exact ⟨(x5_1), (0), (by rfl), H', ⟨Nat.le_refl _⟩, ⟨by exact HO_5.out⟩, ⟨by exact HI0.out⟩, ⟨by exact HK.out⟩, ⟨by exact HB.out⟩⟩
          case round =>
           clear H'
           obtain ⟨x5_5, x37_5, rfl, HA, HK5, HO_5, HI0, HK, HB⟩ := hrel
           cases gk with
           | zero => exact absurd HA.out (by simp [er_runs.l1])
           | succ k5 =>
            have H := HA.out
            clear HA
            simp only [er_runs.l1] at H
            by_cases c19 : x37_5 < t246
            ·rw [if_pos c19] at H
             have c19b0 : decide (x37_5 < t246) = true := decide_eq_true c19
             clear c19
             by_cases c20 : x1001_15 = true
             ·subst c20
              replace H : (er_runs.l0 k5 a1 x5_5 t247 true) = some (r1, r2, r3) := by rw [if_pos rfl] at H; exact H
              have H' := Ak H
              clear H
              obtain ⟨ASz21_0, cSz21_0, HGz21, hgz21, HSz21_0⟩ := HI0.out
              have hcz21_0 := cellS71_0 HGz21
              have hcz21_1 := cellS71_1 HGz21
              have hfz21_0 := blk_frozen HGz21 0
              have hfz21_1 := blk_frozen HGz21 1
              have HCSz21_0 := HSz21_0.1
              replace HSz21_0 := HSz21_0.2
              clear HGz21 hgz21
              go_wp2
              go_roundg k5
              case measure => have := HK1.out; have := HJ2.out; have := HJ10.out; have := HJ15.out; have := HK5.out; omega
              case rel => exact ⟨(x5_5), (t247), (true), H', ⟨by have := HK1.out; have := HJ2.out; have := HJ10.out; have := HJ15.out; have := HK5.out; omega⟩, ⟨by exact HO_5.out⟩, ⟨by exact HI0.out⟩, ⟨by exact HK.out⟩, ⟨by exact HB.out⟩⟩
             ·replace c20 := Bool.eq_false_iff.mpr c20
              subst c20
              replace H : (if x5_5.length < 17592186044416 then (er_runs.l1 k5 a1 (x5_5 ++ [t243]) t243 t246 (wrap64 (x37_5 + 1)) t247 false) else (none)) = some (r1, r2, r3) := by rw [if_neg (show ¬ (false = true) by decide)] at H; exact H
              by_cases c22 : x5_5.length < 17592186044416
              ·rw [if_pos c22] at H
               have LMc22 := Ak c22
               clear c22
               obtain ⟨y249, hy249⟩ : ∃ y_ : List Int, y_ = (x5_5 ++ [t243]) := ⟨_, rfl⟩
               replace H : (er_runs.l1 k5 a1 y249 t243 t246 (wrap64 (x37_5 + 1)) t247 false) = some (r1, r2, r3) := by (rw [hy249]; with_reducible exact H)
               have Ny249 := Ak hy249
               clear hy249
               have H' := Ak H
               clear H
               obtain ⟨ASz23_0, cSz23_0, HGz23, hgz23, HSz23_0⟩ := HI0.out
               have hcz23_0 := cellS71_0 HGz23
               have hcz23_1 := cellS71_1 HGz23
               have hfz23_0 := blk_frozen HGz23 0
               have hfz23_1 := blk_frozen HGz23 1
               have HCSz23_0 := HSz23_0.1
               replace HSz23_0 := HSz23_0.2
               clear HGz23 hgz23
               go_wp2_with (first | ((with_reducible refine gate_builtin (b := .append) (xs := #[.tmp 43, .tmp 45]) rfl ?_); (try (refine gate_guard (by rfl) ?_; dsimp only)); at_builtin; refine Kd.R_append (Kd.int .i64) w.heap.size rfl (.tmp 43) (.tmp 45) 22 3 (.int .i64 0) 8 rfl Try.underlying22 info3 rfl (by decide) (by omega) u5 x5_5 t243 [.int .i64 t243] (fun _ => True) (fun _ => False) rfl rfl ?aP (fun _ hk => hk.elim) ?aF ?aO (Below.refl _ _) ?aS ?aL ?_; (case aP => exact rfl); (case aF => exact (fun _ _ => trivial)); (case aO => exact (by exact HO_5.out)); (case aS => exact (keep_size (w := w) (g := g) (row := none) (by exact HK.out))); (case aL => have := LMc22.out; omega); intro v250 w24 ho hb hg hat; rw [← Ny249.out] at ho; have n0_ := Ak (IsS71.grown (by exact HI0.out) hg (IsS71.own_ne HI0.out HO_5.out (by decide))); have n1_ := Ak (below_weaken (by exact HB.out) HL.out hb); have n2_ := Ak (KeepBut.trans (by exact HK.out) (KeepBut.of_grown hg g) (Kd.R_base2 HO_5.out)); have n3_ := Ak (ho); clear HI0 HB HK HO_5; have HI0 := n0_; have HB := n1_; have HK := n2_; have HO251 := n3_; clear n0_ n1_ n2_ n3_ ho hb hg hat))
               go_roundg k5
               case measure => have := HK1.out; have := HJ2.out; have := HJ10.out; have := HJ15.out; have := HK5.out; omega
               case rel => exact ⟨(y249), (wrap64 (x37_5 + 1)), (by rfl), H', ⟨by have := HK1.out; have := HJ2.out; have := HJ10.out; have := HJ15.out; have := HK5.out; omega⟩, ⟨by exact HO251.out⟩, ⟨by exact HI0.out⟩, ⟨by exact HK.out⟩, ⟨by exact HB.out⟩⟩
              ·rw [if_neg c22] at H
               exact absurd H (by simp)
            ·rw [if_neg c19] at H
             have c19b0 : decide (x37_5 < t246) = false := decide_eq_false c19
             clear c19
             have H' := Ak H
             clear H
             go_wp2
             go_roundg k5
             case measure => have := HK1.out; have := HJ2.out; have := HJ10.out; have := HJ15.out; have := HK5.out; omega
             case rel => exact ⟨(x5_5), (t247), (x1001_15), H', ⟨by have := HK1.out; have := HJ2.out; have := HJ10.out; have := HJ15.out; have := HK5.out; omega⟩, ⟨by exact HO_5.out⟩, ⟨by exact HI0.out⟩, ⟨by exact HK.out⟩, ⟨by exact HB.out⟩⟩
     ·replace c8 := Bool.eq_false_iff.mpr c8
      subst c8
      replace H : (some (x5_1, x1000_1, x1001_1)) = some (r1, r2, r3) := by rw [if_neg (show ¬ (false = true) by decide)] at H; exact H
      simp only [Option.some.injEq, Prod.mk.injEq] at H
      obtain ⟨rfl, rfl, rfl⟩ := H
      go_wp2
      go_ret
      exact ⟨_, by rfl, by exact HO_5.out, by exact HI0.out, by exact HB.out, by exact HK.out⟩
mutual
def er_packed.l0 : Nat → Int → List Int → Int → Int → Int → List Int → Bool → Option (List Int × List Int × Bool)
 | 0, _, _, _, _, _, _, _ => none
 | k + 1, x2, x7, x8, x27, x28, x1000, x1001 => if x28 < x27 then (er_packed.l1 k x2 x7 x8 x28 x27 x28 x2 0 x1000 x1001) else (some (x7, ([] : List Int), x1001))
def er_packed.l1 : Nat → Int → List Int → Int → Int → Int → Int → Int → Int → List Int → Bool → Option (List Int × List Int × Bool)
 | 0, _, _, _, _, _, _, _, _, _, _ => none
 | k + 1, x2, x7, x8, x9, x27, x28, x31, x32, x1000, x1001 => if x32 < x31 then (if 0 ≤ x9 then (if x9 < (x7.length : Int) then (if 0 ≤ (wrap64 (Int.tdiv x8 8)) then (if (wrap64 (Int.tdiv x8 8)) < (x1000.length : Int) then (if 0 ≤ (wrap64 (7 - (Int.tmod x8 8))) then (er_packed.l1 k x2 (x7.set (x9 : Int).toNat (wrap64 ((wrap64 (2 * (rd x7 x9))) + (wrap64 (Go.bits .and .u8 (shr .u8 (rd x1000 (wrap64 (Int.tdiv x8 8))) (wrap64 (7 - (Int.tmod x8 8)))) 1))))) (wrap64 (x8 + 1)) x9 x27 x28 x31 (wrap64 (x32 + 1)) x1000 x1001) else (none)) else (none)) else (none)) else (none)) else (none)) else (er_packed.l0 k x2 x7 x8 x27 (wrap64 (x28 + 1)) x1000 x1001)
end
def er_packed.f (k : Nat) (s0_0 : List Int) (s0_1 : Bool) (a1 : Int) (a2 : Int) : Option (List Int × List Int × Bool) := if (s0_0.length : Int) = (wrap64 (Int.tdiv (wrap64 ((wrap64 (a1 * a2)) + 7)) 8)) then (if 0 ≤ a1 then (if (a1 : Int).toNat ≤ 35184372088832 then ((some (List.replicate (a1 : Int).toNat 0 : List Int)).bind fun y252 => (er_packed.l0 k a2 y252 0 (y252.length : Int) 0 s0_0 s0_1)) else (none)) else (none)) else (some (([] : List Int), s0_0, true))
theorem er_packed.mono_l : ∀ k, (∀ y0 y1 y2 y3 y4 y5 y6, LeO (er_packed.l0 k y0 y1 y2 y3 y4 y5 y6) (er_packed.l0 (k + 1) y0 y1 y2 y3 y4 y5 y6)) ∧ (∀ y0 y1 y2 y3 y4 y5 y6 y7 y8 y9, LeO (er_packed.l1 k y0 y1 y2 y3 y4 y5 y6 y7 y8 y9) (er_packed.l1 (k + 1) y0 y1 y2 y3 y4 y5 y6 y7 y8 y9))
 | 0 => ⟨fun _ _ _ _ _ _ _ r h => by simp [er_packed.l0] at h, fun _ _ _ _ _ _ _ _ _ _ r h => by simp [er_packed.l1] at h⟩
 | k + 1 => by
  obtain ⟨ih0, ih1⟩ := er_packed.mono_l k
  refine ⟨?_, ?_⟩ <;> intros
  all_goals (first | unfold er_packed.l0 | unfold er_packed.l1)
  all_goals
   repeat' first
   | (with_reducible exact ih0 _ _ _ _ _ _ _)
   | (with_reducible exact ih1 _ _ _ _ _ _ _ _ _ _)
   | (with_reducible exact LeO.refl _)
   | (with_reducible refine LeO.ite ?_ ?_)
theorem er_packed.mono : ∀ a0 a1 a2 a3 k, LeO (er_packed.f k a0 a1 a2 a3) (er_packed.f (k + 1) a0 a1 a2 a3) := by
 intro a0 a1 a2 a3 k
 obtain ⟨ih0, ih1⟩ := er_packed.mono_l k
 unfold er_packed.f
 repeat' first
  | (with_reducible exact ih0 _ _ _ _ _ _ _)
  | (with_reducible exact LeO.refl _)
  | (with_reducible refine LeO.ite ?_ ?_)
  | (with_reducible refine LeO.bind ?_ (fun _ => ?_))
def er_packed.T11 : Bool × List (List Nat × List Nat) := (true, [([], []), ([], []), ([], []), ([], []), ([2, 3], [2, 3]), ([4], [4]), ([5], [5]), ([], []), ([7], [7]), ([8], [8]), ([9], [9]), ([], []), ([11], [11]), ([10, 12], [10, 12]), ([13], [13]), ([], []), ([15], [15]), ([16], [16]), ([14, 17], [14, 17]), ([18], [18]), ([19], [19]), ([6, 20], [6, 20]), ([0, 1, 0, 1, 2, 3, 4, 5, 6, 7, 8, 9, 10, 11, 12, 13, 14, 15, 16, 17, 18, 19, 20, 21], [0, 1]), ([22, 21, 0, 1, 2, 3, 4, 5, 6, 7, 8, 9, 10, 11, 12, 13, 14, 15, 16, 17, 18, 19, 20, 21], [21, 22])])
def er_packed.B11 : List Nat := [0, 0, 0, 0, 12, 28, 60, 0, 128, 384, 896, 0, 2048, 8064, 16256, 0, 32768, 98304, 262016, 524160, 1048448, 2097148, 4194303, 8388607]
theorem er_packed.tab11 : rtab .any (opsOf Try.f114 11) = er_packed.T11 := by kernel_rfl
theorem er_packed.bits11 : waitsOk er_packed.T11.2 er_packed.B11 = true := by kernel_rfl
set_option maxHeartbeats 8000000 in
set_option maxRecDepth 100000 in
theorem er_packed.calls (k : Nat) (g : Nat) (s0_0 : List Int) (s0_1 : Bool) (a1 : Int) (a2 : Int) (r1 : List Int) (r2 : List Int) (r3 : Bool) (w0 w : World) (hI : IsS71 w0 w g s0_0 s0_1) (hB : Below w0.heap.size w0 w) (h : er_packed.f k s0_0 s0_1 a1 a2 = some (r1, r2, r3)) :
 Calls Try.prog 114 #[.pointer (some ⟨g, 0, none⟩), .int .i64 a1, .int .i64 a2] w fun e w' => ∃ v0_ : Value, e = .returned (v0_) ∧ Kd.R (Kd.int .i64) 3 w' w.heap.size (fun _ => True) v0_ r1 ∧ IsS71 w0 w' g r2 r3 ∧ Below w0.heap.size w0 w' ∧ KeepBut w w' g none := by
 have HI0 := Ak hI
 have HK := Ak (KeepBut.refl w g none)
 have HL := Ak hB.size
 clear hI
 have HW0 := Ak hB.size
 have HB := Ak hB
 have HBZ := Ak hB
 clear hB
 have H : (if (s0_0.length : Int) = (wrap64 (Int.tdiv (wrap64 ((wrap64 (a1 * a2)) + 7)) 8)) then (if 0 ≤ a1 then (if (a1 : Int).toNat ≤ 35184372088832 then ((some (List.replicate (a1 : Int).toNat 0 : List Int)).bind fun y252 => (er_packed.l0 k a2 y252 0 (y252.length : Int) 0 s0_0 s0_1)) else (none)) else (none)) else (some (([] : List Int), s0_0, true))) = some (r1, r2, r3) := h
 clear h
 by_cases c4 : (s0_0.length : Int) = (wrap64 (Int.tdiv (wrap64 ((wrap64 (a1 * a2)) + 7)) 8))
 ·rw [if_pos c4] at H
  have c4b0 : ((s0_0.length : Int) == (wrap64 (Int.tdiv (wrap64 ((wrap64 (a1 * a2)) + 7)) 8))) = true := beq_iff_eq.mpr c4
  have c4b1 : ((s0_0.length : Int) != (wrap64 (Int.tdiv (wrap64 ((wrap64 (a1 * a2)) + 7)) 8))) = false := bne_eq_false_iff_eq.mpr c4
  clear c4
  by_cases c5 : 0 ≤ a1
  ·rw [if_pos c5] at H
   have c5b0 := eq_true c5
   have c5b1 : decide (0 ≤ a1) = true := decide_eq_true c5
   clear c5
   by_cases c6 : (a1 : Int).toNat ≤ 35184372088832
   ·rw [if_pos c6] at H
    have c6b0 := eq_true c6
    have c6b1 : decide ((a1 : Int).toNat ≤ 35184372088832) = true := decide_eq_true c6
    clear c6
    obtain ⟨y252, hy252⟩ : ∃ y_ : List Int, y_ = (List.replicate (a1 : Int).toNat 0) := ⟨_, rfl⟩
    replace H : (er_packed.l0 k a2 y252 0 (y252.length : Int) 0 s0_0 s0_1) = some (r1, r2, r3) := by (have H2_ := (Option.bind_some _ _).symm.trans H; rw [hy252]; with_reducible exact H2_)
    have Ny252 := Ak hy252
    clear hy252
    have H' := Ak H
    clear H
    obtain ⟨ASz7_0, cSz7_0, HGz7, hgz7, HSz7_0⟩ := HI0.out
    have hcz7_0 := cellS71_0 HGz7
    have hcz7_1 := cellS71_1 HGz7
    have hfz7_0 := blk_frozen HGz7 0
    have hfz7_1 := blk_frozen HGz7 1
    have HCSz7_0 := HSz7_0.1
    replace HSz7_0 := HSz7_0.2
    clear HGz7 hgz7
    go_enter Try.func114, Try.ntmps114
    go_wp2_with (first | ((with_reducible refine gate_dst (N := 25) rfl ?_); refine Kd.R_make (Kd.int .i64) _ 3 rfl (N := 25) rfl 22 _ _ rfl a1 rfl rfl Try.underlying22 (.int .i64 0) 8 info3 rfl (by decide) (by omega) 0 (ok := fun _ => True) (okp := fun _ => True) rfl (fun _ hk => hk) trivial (of_decide_eq_true (by (with_reducible assumption))) (Nat.le_trans (Nat.mul_le_mul_right _ (of_decide_eq_true (by (with_reducible assumption)) : a1.toNat ≤ 35184372088832)) (by omega)) (Below.refl _ _) (Nat.le_refl _) ?_; intro v253 w8 ho9 hb hg_ hnew_; clear hg_ hnew_; (rw [← Ny252.out] at ho9); have n0_ := Ak (Kd.R_lower ho9 (keep_size (w := w) (g := g) (row := none) (by exact HK.out))); have n1_ := Ak (IsS71.below (by exact HI0.out) hb); have n2_ := Ak (KeepBut.trans (by exact HK.out) (KeepBut.of_below hb g none) (.inl rfl)); have n3_ := Ak (below_step (by exact HB.out) hb); clear HI0 HK HB; have HO254 := n0_; have HI0 := n1_; have HK := n2_; have HB := n3_; clear n0_ n1_ n2_ n3_ hb ho9; obtain ⟨Ao10, co10, eo10⟩ := Kd.R_slice HO254.out; subst eo10))
    go_loopg [8, 28] k (fun kq v8 v28 w' => ∃ (x7_1 : List Int) (x8_1 : Int) (x28_1 : Int), v8 = .int .i64 x8_1 ∧ v28 = .int .i64 x28_1 ∧ Aside0 (er_packed.l0 kq a2 x7_1 x8_1 (y252.length : Int) x28_1 s0_0 s0_1 = some (r1, r2, r3)) ∧ Aside0 (kq ≤ k) ∧ Aside0 (Kd.R (Kd.int .i64) 3 w' w.heap.size (fun _ => True) (.slice Ao10 y252.length co10) x7_1) ∧ Aside0 (IsS71 w0 w' g s0_0 s0_1) ∧ Aside0 (KeepBut w w' g none) ∧ Aside0 (Below w0.heap.size w0 w'))
    case atStart => exact ⟨(y252), (0), (0), (by rfl), (by rfl), H', ⟨Nat.le_refl _⟩, ⟨by exact HO254.out⟩, ⟨by exact HI0.out⟩, ⟨by exact HK.out⟩, ⟨by exact HB.out⟩⟩
    case round =>
     clear H'
     try clear c4b0
     try clear c4b1
     try clear c5b0
     try clear c5b1
     try clear c6b0
     try clear c6b1
     try clear hcz7_0
     try clear hcz7_1
     try clear hfz7_0
     try clear hfz7_1
     obtain ⟨x7_1, x8_1, x28_1, rfl, rfl, HA, HK1, HO_7, HI0, HK, HB⟩ := hrel
     have hl7_1 := (Kd.R_reads' HO_7.out).1
     rw [hl7_1] at HO_7
     (try simp only [hl7_1])
     cases gk with
     | zero => exact absurd HA.out (by simp [er_packed.l0])
     | succ k1 =>
      have H := HA.out
      clear HA
      simp only [er_packed.l0] at H
      by_cases c11 : x28_1 < (y252.length : Int)
      ·rw [if_pos c11] at H
       have c11b0 : decide (x28_1 < (y252.length : Int)) = true := decide_eq_true c11
       have c11l0 := c11b0
       (try rw [hl7_1] at c11l0)
       clear c11
       have H' := Ak H
       clear H
       go_wp2
       go_loopg [8, 32] k1 (fun kq v8 v32 w' => ∃ (x7_2 : List Int) (x8_2 : Int) (x32_2 : Int), v8 = .int .i64 x8_2 ∧ v32 = .int .i64 x32_2 ∧ Aside0 (er_packed.l1 kq a2 x7_2 x8_2 x28_1 (y252.length : Int) x28_1 a2 x32_2 s0_0 s0_1 = some (r1, r2, r3)) ∧ Aside0 (kq ≤ k1) ∧ Aside0 (Kd.R (Kd.int .i64) 3 w' w.heap.size (fun _ => True) (.slice Ao10 x7_1.length co10) x7_2) ∧ Aside0 (IsS71 w0 w' g s0_0 s0_1) ∧ Aside0 (KeepBut w w' g none) ∧ Aside0 (Below w0.heap.size w0 w'))
       case atStart => exact ⟨(x7_1), (x8_1), (0), (by rfl), (by rfl), H', ⟨Nat.le_refl _⟩, ⟨by exact HO_7.out⟩, ⟨by exact HI0.out⟩, ⟨by exact HK.out⟩, ⟨by exact HB.out⟩⟩
       case round =>
        clear H'
        try clear c11b0
        obtain ⟨x7_2, x8_2, x32_2, rfl, rfl, HA, HK2, HO_7, HI0, HK, HB⟩ := hrel
        have hl7_2 := (Kd.R_reads' HO_7.out).1
        rw [hl7_2] at HO_7
        (try simp only [hl7_2])
        cases gk with
        | zero => exact absurd HA.out (by simp [er_packed.l1])
        | succ k2 =>
         have H := HA.out
         clear HA
         simp only [er_packed.l1] at H
         by_cases c12 : x32_2 < a2
         ·rw [if_pos c12] at H
          have c12b0 : decide (x32_2 < a2) = true := decide_eq_true c12
          clear c12
          by_cases c13 : 0 ≤ x28_1
          ·rw [if_pos c13] at H
           have c13b0 : decide (0 ≤ x28_1) = true := decide_eq_true c13
           clear c13
           by_cases c14 : x28_1 < (x7_2.length : Int)
           ·rw [if_pos c14] at H
            have c14b0 : decide (x28_1 < (x7_2.length : Int)) = true := decide_eq_true c14
            have c14l0 := c14b0
            (try rw [hl7_1] at c14l0)
            (try rw [hl7_2] at c14l0)
            clear c14
            obtain ⟨ji15, hji15⟩ : ∃ j_ : Int, (wrap64 (Int.tdiv x8_2 8)) = j_ := ⟨_, rfl⟩
            replace H : (if 0 ≤ (ji15) then (if (ji15) < (s0_0.length : Int) then (if 0 ≤ (wrap64 (7 - (Int.tmod x8_2 8))) then (er_packed.l1 k2 a2 (x7_2.set (x28_1 : Int).toNat (wrap64 ((wrap64 (2 * (rd x7_2 x28_1))) + (wrap64 (Go.bits .and .u8 (shr .u8 (rd s0_0 (ji15)) (wrap64 (7 - (Int.tmod x8_2 8)))) 1))))) (wrap64 (x8_2 + 1)) x28_1 (y252.length : Int) x28_1 a2 (wrap64 (x32_2 + 1)) s0_0 s0_1) else (none)) else (none)) else (none)) = some (r1, r2, r3) := by (rw [hji15] at H; exact H)
            have hji15w : (IntKind.i64.wrap (Int.tdiv x8_2 8)) = ji15 := (i64_w _).trans hji15
            by_cases c16 : 0 ≤ (ji15)
            ·rw [if_pos c16] at H
             have c16b0 : decide (0 ≤ (ji15)) = true := decide_eq_true c16
             clear c16
             by_cases c17 : (ji15) < (s0_0.length : Int)
             ·rw [if_pos c17] at H
              have c17b0 : decide ((ji15) < (s0_0.length : Int)) = true := decide_eq_true c17
              have c17l0 := c17b0
              (try rw [hl7_1] at c17l0)
              (try rw [hl7_2] at c17l0)
              clear c17
              obtain ⟨ji18, hji18⟩ : ∃ j_ : Int, (wrap64 (7 - (Int.tmod x8_2 8))) = j_ := ⟨_, rfl⟩
              replace H : (if 0 ≤ (ji18) then (er_packed.l1 k2 a2 (x7_2.set (x28_1 : Int).toNat (wrap64 ((wrap64 (2 * (rd x7_2 x28_1))) + (wrap64 (Go.bits .and .u8 (shr .u8 (rd s0_0 (ji15)) (ji18)) 1))))) (wrap64 (x8_2 + 1)) x28_1 (y252.length : Int) x28_1 a2 (wrap64 (x32_2 + 1)) s0_0 s0_1) else (none)) = some (r1, r2, r3) := by (rw [hji18] at H; exact H)
              have hji18w : (IntKind.i64.wrap (7 - (Int.tmod x8_2 8))) = ji18 := (i64_w _).trans hji18
              by_cases c19 : 0 ≤ (ji18)
              ·rw [if_pos c19] at H
               have c19b0 := eq_true c19
               have c19b1 : decide (0 ≤ (ji18)) = true := decide_eq_true c19
               clear c19
               obtain ⟨ji20, hji20⟩ : ∃ j_ : Int, (shr .u8 (rd s0_0 (ji15)) (ji18)) = j_ := ⟨_, rfl⟩
               replace H : (er_packed.l1 k2 a2 (x7_2.set (x28_1 : Int).toNat (wrap64 ((wrap64 (2 * (rd x7_2 x28_1))) + (wrap64 (Go.bits .and .u8 (ji20) 1))))) (wrap64 (x8_2 + 1)) x28_1 (y252.length : Int) x28_1 a2 (wrap64 (x32_2 + 1)) s0_0 s0_1) = some (r1, r2, r3) := by (rw [hji20] at H; exact H)
               have hji20_ : ((rd s0_0 (ji15)) / 2 ^ min (ji18).toNat 8) = ji20 := hji20
               have hji20z : (ji18) ≤ 8 → ((rd s0_0 (ji15)) / 2 ^ (ji18).toNat) = ji20 := shr_small hji20
               obtain ⟨y257, hy257⟩ : ∃ y_ : List Int, y_ = (x7_2.set (x28_1 : Int).toNat (wrap64 ((wrap64 (2 * (rd x7_2 x28_1))) + (wrap64 (Go.bits .and .u8 (ji20) 1))))) := ⟨_, rfl⟩
               replace H : (er_packed.l1 k2 a2 y257 (wrap64 (x8_2 + 1)) x28_1 (y252.length : Int) x28_1 a2 (wrap64 (x32_2 + 1)) s0_0 s0_1) = some (r1, r2, r3) := by (rw [hy257]; with_reducible exact H)
               have Ny257 := Ak hy257
               clear hy257
               have H' := Ak H
               clear H
               try go_wp2
               have n0_ := Ak (Kd.R_drew HO_7.out)
               have n1_ := Ak (IsS71.drew HI0.out)
               have n2_ := Ak (keep_drew HK.out)
               have n3_ := Ak (below_drew1 HB.out)
               clear HO_7 HI0 HK HB
               have HO_7 := n0_
               have HI0 := n1_
               have HK := n2_
               have HB := n3_
               clear n0_ n1_ n2_ n3_
               have p255 : 0 ≤ (x28_1 : Int) := of_decide_eq_true (by (with_reducible assumption))
               have q255 : x28_1 < (x7_2.length : Int) := of_decide_eq_true (by (with_reducible assumption))
               obtain ⟨ad255, e255, hx255_0⟩ := Kd.at_int (Kd.R_reads' HO_7.out).2.2 x28_1 p255 q255
               cases e255
               replace p255 := eq_true p255
               replace q255 := eq_true q255
               obtain ⟨ASz23_0, cSz23_0, HGz23, hgz23, HSz23_0⟩ := HI0.out
               have hcz23_0 := cellS71_0 HGz23
               have hcz23_1 := cellS71_1 HGz23
               have hfz23_0 := blk_frozen HGz23 0
               have hfz23_1 := blk_frozen HGz23 1
               have HCSz23_0 := HSz23_0.1
               replace HSz23_0 := HSz23_0.2
               clear HGz23 hgz23
               have HRsrz23_0 := Ak (Kd.C_below HSz23_0 HBZ.out)
               have hfsrz23_0 : ∀ ad : Addr, ASz23_0 = some ad → 0 < s0_0.length → ad.block ≠ g := Kd.far_C 0 HSz23_0 (IsS71.ge HI0.out)
               have p256 : 0 ≤ ((ji15) : Int) := of_decide_eq_true (by (with_reducible assumption))
               have q256 : (ji15) < (s0_0.length : Int) := of_decide_eq_true (by (with_reducible assumption))
               obtain ⟨ad256, e256, hx256_0⟩ := Kd.at_int HRsrz23_0.out (ji15) p256 q256
               have hw256_0 := hx256_0
               cases e256
               have hne256_0 := (show ((ad256.add ((ji15)).toNat) : Addr).block ≠ g from by (rw [add_block]; exact hfsrz23_0 ad256 rfl (by omega)))
               replace hx256_0 := keep_cell HK.out hx256_0 (by (rw [add_block]; exact hfsrz23_0 _ rfl (by omega)))
               replace p256 := eq_true p256
               replace q256 := eq_true q256
               have p21 : 0 ≤ (x28_1 : Int) := of_decide_eq_true (by (with_reducible assumption))
               have q21 : (x28_1 : Int) < ((x7_2.length : Int) : Int) := of_decide_eq_true (by (with_reducible assumption))
               obtain ⟨go21, co21, eo21, gb21, gl21, cl21, HG21⟩ := Kd.R_form HO_7.out (by omega)
               (cases eo21)
               have GB21 := Ak gb21
               have GG21 := Ak HG21
               clear gb21 gl21 HG21
               (simp only [add_plain] at hx255_0)
               obtain ⟨hx21_0, hf21_0⟩ := Kd.R_celln 0 HO_7.out (x28_1 : Int) p21 q21
               replace p21 := eq_true p21
               replace q21 := eq_true q21
               have HN0_go21 := Ak (show g ≠ go21 from by have h_ := IsS71.own_ne HI0.out HO_7.out (by decide); intro e_; exact h_ (by rw [e_]; rfl))
               have HP24 := Kd.R_putn HO_7.out (x28_1 : Int) (wrap64 ((wrap64 (2 * (rd x7_2 x28_1))) + (wrap64 (Go.bits .and .u8 (ji20) 1))))
               rw [← Ny257.out] at HP24
               have HQ24 := Ak HP24
               clear HP24
               refine start_ (n := 24) (S := fun w' => w'.cell? ⟨g, 0, none⟩ = some (.slice (some ad256) s0_0.length cSz23_0) ∧ w'.cell? ⟨g, 1, none⟩ = some (.bool s0_1) ∧ w'.cell? ⟨go21, (x28_1).toNat, none⟩ = some (.int .i64 (rd x7_2 x28_1)) ∧ w'.cell? (ad256.add ((ji15)).toNat) = some (.int .u8 (rd s0_0 (ji15)))) (ds := [23]) #[false, false, false, false, false, false, false, false, false, false, false, false, false, false, false, false, false, false, false, false, false, false, false, false] (by kernel_rfl) rfl rfl ⟨hcz23_0, hcz23_1, hx255_0, (keep_cell HK.out hw256_0 hne256_0)⟩ (fun hHeld => ?_); refine with_tabW er_packed.tab11 er_packed.bits11 (fun HT_ HW_ => ?_)
               generalize wr.drew = w22 at HO_7 HI0 HK HB GG21 HQ24 hf21_0 hx21_0 hx255_0 hx256_0 hHeld ⊢
               refine pure_ (i := 0) (N := some 34) (v := ?_) (a' := ?_) #[true, false, false, false, false, false, false, false, false, false, false, false, false, false, false, false, false, false, false, false, false, false, false, false] rfl rfl (any_of HT_.out (by kernel_rfl)) (fun _ _ _ h => h) (Or.inl ⟨by rfl, ?_⟩) ?_ ?_
               rotate_left
               ·intro w'
                go_simp
                with_reducible rfl
               rotate_left
               ·simp only [Act.put, List.setIfInBounds_toArray, List.set_cons_zero, List.set_cons_succ, i64_w, i32_w]
                rfl
               refine pure_ (i := 1) (N := some 35) (v := ?_) (a' := ?_) #[true, true, false, false, false, false, false, false, false, false, false, false, false, false, false, false, false, false, false, false, false, false, false, false] rfl rfl (any_of HT_.out (by kernel_rfl)) (fun _ _ _ h => h) (Or.inl ⟨by rfl, ?_⟩) ?_ ?_
               rotate_left
               ·intro w'
                go_simp
                with_reducible rfl
               rotate_left
               ·simp only [Act.put, List.setIfInBounds_toArray, List.set_cons_zero, List.set_cons_succ, i64_w, i32_w]
                rfl
               refine pure_ (i := 2) (N := some 36) (v := ?_) (a' := ?_) #[true, true, true, false, false, false, false, false, false, false, false, false, false, false, false, false, false, false, false, false, false, false, false, false] rfl rfl (any_of HT_.out (by kernel_rfl)) (fun _ _ _ h => h) (Or.inl ⟨by rfl, ?_⟩) ?_ ?_
               rotate_left
               ·intro w'
                go_simp
                with_reducible rfl
               rotate_left
               ·simp only [Act.put, List.setIfInBounds_toArray, List.set_cons_zero, List.set_cons_succ, i64_w, i32_w]
                rfl
               refine pure_ (i := 3) (N := some 37) (v := ?_) (a' := ?_) #[true, true, true, true, false, false, false, false, false, false, false, false, false, false, false, false, false, false, false, false, false, false, false, false] rfl rfl (any_of HT_.out (by kernel_rfl)) (fun _ _ _ h => h) (Or.inl ⟨by rfl, ?_⟩) ?_ ?_
               rotate_left
               ·intro w'
                go_simp
                with_reducible rfl
               rotate_left
               ·simp only [Act.put, List.setIfInBounds_toArray, List.set_cons_zero, List.set_cons_succ, i64_w, i32_w]
                rfl
               refine pure_ (i := 4) (N := some 38) (v := ?_) (a' := ?_) #[true, true, true, true, true, false, false, false, false, false, false, false, false, false, false, false, false, false, false, false, false, false, false, false] rfl rfl (any_of HT_.out (by kernel_rfl)) (fun _ _ _ h => h) (Or.inl ⟨by rfl, ?_⟩) ?_ ?_
               rotate_left
               ·intro w'
                go_simp
                with_reducible rfl
               rotate_left
               ·simp only [Act.put, List.setIfInBounds_toArray, List.set_cons_zero, List.set_cons_succ, i64_w, i32_w]
                rfl
               refine pure_ (i := 7) (N := some 41) (v := ?_) (a' := ?_) #[true, true, true, true, true, false, false, true, false, false, false, false, false, false, false, false, false, false, false, false, false, false, false, false] rfl rfl (any_of HT_.out (by kernel_rfl)) (fun _ _ _ h => h) (Or.inl ⟨by rfl, ?_⟩) ?_ ?_
               rotate_left
               ·intro w'
                go_simp
                with_reducible rfl
               rotate_left
               ·simp only [Act.put, List.setIfInBounds_toArray, List.set_cons_zero, List.set_cons_succ, i64_w, i32_w]
                rfl
               refine pure_ (i := 8) (N := some 42) (v := ?_) (a' := ?_) #[true, true, true, true, true, false, false, true, true, false, false, false, false, false, false, false, false, false, false, false, false, false, false, false] rfl rfl (any_of HT_.out (by kernel_rfl)) (fun _ _ _ h => h) (Or.inl ⟨by rfl, ?_⟩) ?_ ?_
               rotate_left
               ·intro w'
                go_simp
                with_reducible rfl
               rotate_left
               ·simp only [Act.put, List.setIfInBounds_toArray, List.set_cons_zero, List.set_cons_succ, i64_w, i32_w]
                rfl
               refine pure_ (i := 9) (N := some 43) (v := ?_) (a' := ?_) #[true, true, true, true, true, false, false, true, true, true, false, false, false, false, false, false, false, false, false, false, false, false, false, false] rfl rfl (any_of HT_.out (by kernel_rfl)) (fun _ _ _ h => h) (Or.inl ⟨by rfl, ?_⟩) ?_ ?_
               rotate_left
               ·intro w'
                go_simp
                with_reducible rfl
               rotate_left
               ·simp only [Act.put, List.setIfInBounds_toArray, List.set_cons_zero, List.set_cons_succ, i64_w, i32_w]
                rfl
               refine pure_ (i := 11) (N := some 45) (v := ?_) (a' := ?_) #[true, true, true, true, true, false, false, true, true, true, false, true, false, false, false, false, false, false, false, false, false, false, false, false] rfl rfl (any_of HT_.out (by kernel_rfl)) (fun _ _ _ h => h) (Or.inl ⟨by rfl, ?_⟩) ?_ ?_
               rotate_left
               ·intro w'
                go_simp
                with_reducible rfl
               rotate_left
               ·simp only [Act.put, List.setIfInBounds_toArray, List.set_cons_zero, List.set_cons_succ, i64_w, i32_w]
                rfl
               refine pure_ (i := 12) (N := some 46) (v := ?_) (a' := ?_) #[true, true, true, true, true, false, false, true, true, true, false, true, true, false, false, false, false, false, false, false, false, false, false, false] rfl rfl (any_of HT_.out (by kernel_rfl)) (fun _ _ _ h => h) (Or.inl ⟨by rfl, ?_⟩) ?_ ?_
               rotate_left
               ·intro w'
                go_simp
                with_reducible rfl
               rotate_left
               ·simp only [Act.put, List.setIfInBounds_toArray, List.set_cons_zero, List.set_cons_succ, i64_w, i32_w]
                rfl
               refine pure_ (i := 15) (N := some 49) (v := ?_) (a' := ?_) #[true, true, true, true, true, false, false, true, true, true, false, true, true, false, false, true, false, false, false, false, false, false, false, false] rfl rfl (any_of HT_.out (by kernel_rfl)) (fun _ _ _ h => h) (Or.inl ⟨by rfl, ?_⟩) ?_ ?_
               rotate_left
               ·intro w'
                go_simp
                with_reducible rfl
               rotate_left
               ·simp only [Act.put, List.setIfInBounds_toArray, List.set_cons_zero, List.set_cons_succ, i64_w, i32_w]
                rfl
               refine pure_ (i := 16) (N := some 50) (v := ?_) (a' := ?_) #[true, true, true, true, true, false, false, true, true, true, false, true, true, false, false, true, true, false, false, false, false, false, false, false] rfl rfl (any_of HT_.out (by kernel_rfl)) (fun _ _ _ h => h) (Or.inl ⟨by rfl, ?_⟩) ?_ ?_
               rotate_left
               ·intro w'
                go_simp
                with_reducible rfl
               rotate_left
               ·simp only [Act.put, List.setIfInBounds_toArray, List.set_cons_zero, List.set_cons_succ, i64_w, i32_w]
                rfl
               refine pure_ (i := 17) (N := some 51) (v := ?_) (a' := ?_) #[true, true, true, true, true, false, false, true, true, true, false, true, true, false, false, true, true, true, false, false, false, false, false, false] rfl rfl (any_of HT_.out (by kernel_rfl)) (fun _ _ _ h => h) (Or.inl ⟨by rfl, ?_⟩) ?_ ?_
               rotate_left
               ·intro w'
                go_simp
                with_reducible rfl
               rotate_left
               ·simp only [Act.put, List.setIfInBounds_toArray, List.set_cons_zero, List.set_cons_succ, i64_w, i32_w]
                rfl
               refine take_ (i := 5) (N := some 39) (v := ?_) (a' := ?_) #[true, true, true, true, true, true, false, true, true, true, false, true, true, false, false, true, true, true, false, false, false, false, false, false] rfl rfl (take_ofW HT_.out HW_.out (by kernel_rfl)) (fun _ _ _ h => h) (Or.inl ⟨by rfl, ?_⟩) hHeld ?_ ?_
               rotate_left
               ·rintro w' ⟨s0, s1, s2, s3⟩
                go_simp
                with_reducible rfl
               rotate_left
               ·simp only [Act.put, List.setIfInBounds_toArray, List.set_cons_zero, List.set_cons_succ, i64_w, i32_w]
                rfl
               refine pure_ (i := 6) (N := some 40) (v := ?_) (a' := ?_) #[true, true, true, true, true, true, true, true, true, true, false, true, true, false, false, true, true, true, false, false, false, false, false, false] rfl rfl (any_of HT_.out (by kernel_rfl)) (fun _ _ _ h => h) (Or.inl ⟨by rfl, ?_⟩) ?_ ?_
               rotate_left
               ·intro w'
                go_simp
                with_reducible rfl
               rotate_left
               ·simp only [Act.put, List.setIfInBounds_toArray, List.set_cons_zero, List.set_cons_succ, i64_w, i32_w]
                rfl
               refine take_ (i := 10) (N := some 44) (v := ?_) (a' := ?_) #[true, true, true, true, true, true, true, true, true, true, true, true, true, false, false, true, true, true, false, false, false, false, false, false] rfl rfl (take_ofW HT_.out HW_.out (by kernel_rfl)) (fun _ _ _ h => h) (Or.inl ⟨by rfl, ?_⟩) hHeld ?_ ?_
               rotate_left
               ·rintro w' ⟨s0, s1, s2, s3⟩
                go_simp
                with_reducible rfl
               rotate_left
               ·simp only [Act.put, List.setIfInBounds_toArray, List.set_cons_zero, List.set_cons_succ, i64_w, i32_w]
                rfl
               refine pure_ (i := 13) (N := some 47) (v := ?_) (a' := ?_) #[true, true, true, true, true, true, true, true, true, true, true, true, true, true, false, true, true, true, false, false, false, false, false, false] rfl rfl (any_of HT_.out (by kernel_rfl)) (fun _ _ _ h => h) (Or.inl ⟨by rfl, ?_⟩) ?_ ?_
               rotate_left
               ·intro w'
                go_simp
                with_reducible rfl
               rotate_left
               ·simp only [Act.put, List.setIfInBounds_toArray, List.set_cons_zero, List.set_cons_succ, i64_w, i32_w]
                rfl
               refine take_ (i := 14) (N := some 48) (v := ?_) (a' := ?_) #[true, true, true, true, true, true, true, true, true, true, true, true, true, true, true, true, true, true, false, false, false, false, false, false] rfl rfl (take_ofW HT_.out HW_.out (by kernel_rfl)) (fun _ _ _ h => h) (Or.inl ⟨by rfl, ?_⟩) hHeld ?_ ?_
               rotate_left
               ·rintro w' ⟨s0, s1, s2, s3⟩
                go_simp
                with_reducible rfl
               rotate_left
               ·simp only [Act.put, List.setIfInBounds_toArray, List.set_cons_zero, List.set_cons_succ, i64_w, i32_w]
                rfl
               refine pure_ (i := 18) (N := some 52) (v := ?_) (a' := ?_) #[true, true, true, true, true, true, true, true, true, true, true, true, true, true, true, true, true, true, true, false, false, false, false, false] rfl rfl (any_of HT_.out (by kernel_rfl)) (fun _ _ _ h => h) (Or.inl ⟨by rfl, ?_⟩) ?_ ?_
               rotate_left
               ·intro w'
                go_simp
                with_reducible rfl
               rotate_left
               ·simp only [Act.put, List.setIfInBounds_toArray, List.set_cons_zero, List.set_cons_succ, i64_w, i32_w]
                rfl
               refine pure_ (i := 19) (N := some 53) (v := ?_) (a' := ?_) #[true, true, true, true, true, true, true, true, true, true, true, true, true, true, true, true, true, true, true, true, false, false, false, false] rfl rfl (any_of HT_.out (by kernel_rfl)) (fun _ _ _ h => h) (Or.inl ⟨by rfl, ?_⟩) ?_ ?_
               rotate_left
               ·intro w'
                go_simp
                with_reducible rfl
               rotate_left
               ·simp only [Act.put, List.setIfInBounds_toArray, List.set_cons_zero, List.set_cons_succ, i64_w, i32_w]
                rfl
               refine pure_ (i := 20) (N := some 54) (v := ?_) (a' := ?_) #[true, true, true, true, true, true, true, true, true, true, true, true, true, true, true, true, true, true, true, true, true, false, false, false] rfl rfl (any_of HT_.out (by kernel_rfl)) (fun _ _ _ h => h) (Or.inl ⟨by rfl, ?_⟩) ?_ ?_
               rotate_left
               ·intro w'
                go_simp
                with_reducible rfl
               rotate_left
               ·simp only [Act.put, List.setIfInBounds_toArray, List.set_cons_zero, List.set_cons_succ, i64_w, i32_w]
                rfl
               refine pure_ (i := 21) (N := some 55) (v := ?_) (a' := ?_) #[true, true, true, true, true, true, true, true, true, true, true, true, true, true, true, true, true, true, true, true, true, true, false, false] rfl rfl (any_of HT_.out (by kernel_rfl)) (fun _ _ _ h => h) (Or.inl ⟨by rfl, ?_⟩) ?_ ?_
               rotate_left
               ·intro w'
                go_simp
                with_reducible rfl
               rotate_left
               ·simp only [Act.put, List.setIfInBounds_toArray, List.set_cons_zero, List.set_cons_succ, i64_w, i32_w]
                rfl
               refine pure_ (i := 22) (N := some 56) (v := ?_) (a' := ?_) #[true, true, true, true, true, true, true, true, true, true, true, true, true, true, true, true, true, true, true, true, true, true, true, false] rfl rfl (any_of HT_.out (by kernel_rfl)) (fun _ _ _ h => h) (Or.inl ⟨by rfl, ?_⟩) ?_ ?_
               rotate_left
               ·intro w'
                go_simp
                with_reducible rfl
               rotate_left
               ·simp only [Act.put, List.setIfInBounds_toArray, List.set_cons_zero, List.set_cons_succ, i64_w, i32_w]
                rfl
               refine last_ (i := 23) (N := none) #[true, true, true, true, true, true, true, true, true, true, true, true, true, true, true, true, true, true, true, true, true, true, true, true] rfl rfl (one_of HT_.out (by kernel_rfl)) (by decide) (fun K hK => ?_)
               refine skip_ (w1 := ?_) (by rfl) rfl ?_ ?_
               rotate_left
               ·go_simp
                rfl
               refine hK.out _ _ ?_
               clear hK K
               refine done_ (done_of HT_.out (by kernel_rfl)) ?_
               try go_wp2
               (try simp only [← hl7_2])
               go_roundg k2
               case measure => have := HK1.out; have := HK2.out; omega
               case rel => exact ⟨(y257), (wrap64 (x8_2 + 1)), (wrap64 (x32_2 + 1)), (by rfl), (by rfl), H', ⟨by have := HK1.out; have := HK2.out; omega⟩, ⟨by (try simp only [hl7_2]); exact HQ24.out⟩, ⟨by repeat ((with_reducible first | exact HI0.out | refine IsS71.far ?_ HN0_go21.out _))⟩, ⟨by repeat ((with_reducible first | exact HK.out | refine keep_far ?_ GB21.out _))⟩, ⟨by repeat ((with_reducible first | exact HB.out | refine below_set ?_ (Nat.le_trans HL.out GB21.out)))⟩⟩
              ·rw [if_neg c19] at H
               exact absurd H (by simp)
             ·rw [if_neg c17] at H
              exact absurd H (by simp)
            ·rw [if_neg c16] at H
             exact absurd H (by simp)
           ·rw [if_neg c14] at H
            exact absurd H (by simp)
          ·rw [if_neg c13] at H
           exact absurd H (by simp)
         ·rw [if_neg c12] at H
          have c12b0 : decide (x32_2 < a2) = false := decide_eq_false c12
          clear c12
          have H' := Ak H
          clear H
          go_wp2
          (try simp only [← hl7_1, ← hl7_2])
          go_roundg k2
          case measure => have := HK1.out; have := HK2.out; omega
          case rel => exact ⟨(x7_2), (x8_2), (wrap64 (x28_1 + 1)), (by rfl), (by rfl), H', ⟨by have := HK1.out; have := HK2.out; omega⟩, ⟨by (try simp only [hl7_1]); (try simp only [hl7_2]); exact HO_7.out⟩, ⟨by exact HI0.out⟩, ⟨by exact HK.out⟩, ⟨by exact HB.out⟩⟩
      ·rw [if_neg c11] at H
       have c11b0 : decide (x28_1 < (y252.length : Int)) = false := decide_eq_false c11
       have c11l0 := c11b0
       (try rw [hl7_1] at c11l0)
       clear c11
       simp only [Option.some.injEq, Prod.mk.injEq] at H
       obtain ⟨rfl, rfl, rfl⟩ := H
       obtain ⟨ASz25_0, cSz25_0, HGz25, hgz25, HSz25_0⟩ := HI0.out
       have hcz25_0 := cellS71_0 HGz25
       have hcz25_1 := cellS71_1 HGz25
       have hfz25_0 := blk_frozen HGz25 0
       have hfz25_1 := blk_frozen HGz25 1
       have HCSz25_0 := HSz25_0.1
       replace HSz25_0 := HSz25_0.2
       clear HGz25 hgz25
       go_wp2
       go_ret
       exact ⟨_, by rfl, by exact Kd.R_mono (Kd.R_far (p := ⟨g, 0, none⟩) (IsS71.apart HI0.out HO_7.out (by decide)) (fun _ hk => hk.2) (.slice none 0 0)) (fun _ hk => trivial), by repeat (exact IsS71.setw_0 (by exact HI0.out) (by simp) ⟨Nat.le_refl _, Kd.C_nil _ _⟩), by repeat ((with_reducible first | exact HB.out | refine below_set ?_ (IsS71.ge HI0.out))), by repeat ((with_reducible first | exact HK.out | apply KeepBut.set_ ))⟩
   ·rw [if_neg c6] at H
    exact absurd H (by simp)
  ·rw [if_neg c5] at H
   exact absurd H (by simp)
 ·rw [if_neg c4] at H
  have c4b0 : ((s0_0.length : Int) == (wrap64 (Int.tdiv (wrap64 ((wrap64 (a1 * a2)) + 7)) 8))) = false := beq_eq_false_iff_ne.mpr c4
  have c4b1 : ((s0_0.length : Int) != (wrap64 (Int.tdiv (wrap64 ((wrap64 (a1 * a2)) + 7)) 8))) = true := bne_iff_ne.mpr c4
  simp only [Option.some.injEq, Prod.mk.injEq] at H
  obtain ⟨rfl, rfl, rfl⟩ := H
  obtain ⟨ASz26_0, cSz26_0, HGz26, hgz26, HSz26_0⟩ := HI0.out
  have hcz26_0 := cellS71_0 HGz26
  have hcz26_1 := cellS71_1 HGz26
  have hfz26_0 := blk_frozen HGz26 0
  have hfz26_1 := blk_frozen HGz26 1
  have HCSz26_0 := HSz26_0.1
  replace HSz26_0 := HSz26_0.2
  clear HGz26 hgz26
  go_enter Try.func114, Try.ntmps114
  go_wp2
  go_ret
  exact ⟨_, by rfl, by exact Kd.R_nil _ _ _ _ _, by repeat ((with_reducible first | exact HI0.out | apply IsS71.set_1)), by repeat ((with_reducible first | exact HB.out | refine below_set ?_ (IsS71.ge HI0.out))), by repeat ((with_reducible first | exact HK.out | apply KeepBut.set_ ))⟩
mutual
def er_dict.j0 : Nat → Int → Int → Bool → List Int → Bool → Option (List Int × List Int × Bool)
 | 0, _, _, _, _, _ => none
 | k + 1, x1, x5, x19, x1000, x1001 => if x19 = true then (some (([] : List Int), x1000, true)) else ((er_number.f k x1000 x1001).bind fun bt261 => (er_dict.l0 k x1 x5 (([bt261.1] : List Int)) bt261.2.1 bt261.2.2))
def er_dict.j2 : Nat → Int → Int → List Int → List Int → Bool → Option (List Int × List Int × Bool)
 | 0, _, _, _, _, _ => none
 | k + 1, x1, x5, x6, x1000, x1001 => if x1001 = true then (some (([] : List Int), x1000, x1001)) else ((e_widthOf.f (wrap64 (x5 - 1))).bind fun t274 => ((er_packed.f k x1000 x1001 x1 t274).bind fun bt275 => (er_dict.l1 k x5 x6 bt275.1 (bt275.1.length : Int) 0 bt275.2.1 bt275.2.2)))
def er_dict.l1 : Nat → Int → List Int → List Int → Int → Int → List Int → Bool → Option (List Int × List Int × Bool)
 | 0, _, _, _, _, _, _, _ => none
 | k + 1, x5, x6, x7, x60, x61, x1000, x1001 => if x61 < x60 then (if 0 ≤ x61 then (if x61 < (x7.length : Int) then (if (rd x7 x61) ≥ x5 then (some (([] : List Int), x1000, true)) else (if 0 ≤ (rd x7 x61) then (if (rd x7 x61) < (x6.length : Int) then (er_dict.l1 k x5 x6 (x7.set (x61 : Int).toNat (rd x6 (rd x7 x61))) x60 (wrap64 (x61 + 1)) x1000 x1001) else (none)) else (none))) else (none)) else (none)) else (some (x7, x1000, x1001))
def er_dict.l0 : Nat → Int → Int → List Int → List Int → Bool → Option (List Int × List Int × Bool)
 | 0, _, _, _, _, _ => none
 | k + 1, x1, x5, x6, x1000, x1001 => if (x6.length : Int) < x5 then (if x1001 = true then (er_dict.j2 k x1 x5 x6 x1000 x1001) else (if 0 ≤ (wrap64 ((x6.length : Int) - 1)) then (if (wrap64 ((x6.length : Int) - 1)) < (x6.length : Int) then ((er_count.f k x1000 x1001).bind fun bt268 => (if x6.length < 17592186044416 then (er_dict.l0 k x1 x5 (x6 ++ [wrap64 ((rd x6 (wrap64 ((x6.length : Int) - 1))) + bt268.1)]) bt268.2.1 bt268.2.2) else (none))) else (none)) else (none))) else (er_dict.j2 k x1 x5 x6 x1000 x1001)
end
def er_dict.f (k : Nat) (s0_0 : List Int) (s0_1 : Bool) (a1 : Int) : Option (List Int × List Int × Bool) := (er_long.f k s0_0 s0_1).bind fun bt258 => (if bt258.1 = 0 then (er_dict.j0 k a1 bt258.1 true bt258.2.1 bt258.2.2) else (er_dict.j0 k a1 bt258.1 bt258.2.2 bt258.2.1 bt258.2.2))
theorem er_dict.mono_l : ∀ k, (∀ y0 y1 y2 y3 y4, LeO (er_dict.j0 k y0 y1 y2 y3 y4) (er_dict.j0 (k + 1) y0 y1 y2 y3 y4)) ∧ (∀ y0 y1 y2 y3 y4, LeO (er_dict.j2 k y0 y1 y2 y3 y4) (er_dict.j2 (k + 1) y0 y1 y2 y3 y4)) ∧ (∀ y0 y1 y2 y3 y4 y5 y6, LeO (er_dict.l1 k y0 y1 y2 y3 y4 y5 y6) (er_dict.l1 (k + 1) y0 y1 y2 y3 y4 y5 y6)) ∧ (∀ y0 y1 y2 y3 y4, LeO (er_dict.l0 k y0 y1 y2 y3 y4) (er_dict.l0 (k + 1) y0 y1 y2 y3 y4))
 | 0 => ⟨fun _ _ _ _ _ r h => by simp [er_dict.j0] at h, fun _ _ _ _ _ r h => by simp [er_dict.j2] at h, fun _ _ _ _ _ _ _ r h => by simp [er_dict.l1] at h, fun _ _ _ _ _ r h => by simp [er_dict.l0] at h⟩
 | k + 1 => by
  obtain ⟨ih0, ih1, ih2, ih3⟩ := er_dict.mono_l k
  refine ⟨?_, ?_, ?_, ?_⟩ <;> intros
  all_goals (first | unfold er_dict.j0 | unfold er_dict.j2 | unfold er_dict.l1 | unfold er_dict.l0)
  all_goals
   repeat' first
   | (with_reducible exact ih1 _ _ _ _ _)
   | (with_reducible exact ih2 _ _ _ _ _ _ _)
   | (with_reducible exact ih3 _ _ _ _ _)
   | (with_reducible exact er_count.mono _ _ _)
   | (with_reducible exact er_number.mono _ _ _)
   | (with_reducible exact er_packed.mono _ _ _ _ _)
   | (with_reducible exact LeO.refl _)
   | (with_reducible refine LeO.ite ?_ ?_)
   | (with_reducible refine LeO.bind ?_ (fun _ => ?_))
theorem er_dict.mono : ∀ a0 a1 a2 k, LeO (er_dict.f k a0 a1 a2) (er_dict.f (k + 1) a0 a1 a2) := by
 intro a0 a1 a2 k
 obtain ⟨ih0, ih1, ih2, ih3⟩ := er_dict.mono_l k
 unfold er_dict.f
 repeat' first
  | (with_reducible exact ih0 _ _ _ _ _)
  | (with_reducible exact er_long.mono _ _ _)
  | (with_reducible refine LeO.ite ?_ ?_)
  | (with_reducible refine LeO.bind ?_ (fun _ => ?_))
def er_dict.T7 : Bool × List (List Nat × List Nat) := (true, [([], []), ([], []), ([], []), ([2], [2]), ([3], [3]), ([1, 4], [1, 4]), ([5], [5]), ([], []), ([7], [7]), ([6, 8], [6, 8]), ([9], [9]), ([0, 10, 8], [0, 10]), ([11, 11, 0, 1, 2, 3, 4, 5, 6, 7, 8, 9, 10, 11], [0, 1, 2, 11])])
def er_dict.B7 : List Nat := [0, 0, 0, 4, 12, 30, 62, 0, 128, 510, 1022, 2047, 4095]
theorem er_dict.tab7 : rtab .any (opsOf Try.f113 7) = er_dict.T7 := by kernel_rfl
theorem er_dict.bits7 : waitsOk er_dict.T7.2 er_dict.B7 = true := by kernel_rfl
set_option maxHeartbeats 8000000 in
set_option maxRecDepth 100000 in
theorem er_dict.calls (k : Nat) (g : Nat) (s0_0 : List Int) (s0_1 : Bool) (a1 : Int) (r1 : List Int) (r2 : List Int) (r3 : Bool) (w0 w : World) (hI : IsS71 w0 w g s0_0 s0_1) (hB : Below w0.heap.size w0 w) (h : er_dict.f k s0_0 s0_1 a1 = some (r1, r2, r3)) :
 Calls Try.prog 113 #[.pointer (some ⟨g, 0, none⟩), .int .i64 a1] w fun e w' => ∃ v0_ : Value, e = .returned (v0_) ∧ Kd.R (Kd.int .i64) 3 w' w.heap.size (fun _ => True) v0_ r1 ∧ IsS71 w0 w' g r2 r3 ∧ Below w0.heap.size w0 w' ∧ KeepBut w w' g none := by
 have HI0 := Ak hI
 have HK := Ak (KeepBut.refl w g none)
 have HL := Ak hB.size
 clear hI
 have HW0 := Ak hB.size
 have HB := Ak hB
 have HBZ := Ak hB
 clear hB
 have H : ((er_long.f k s0_0 s0_1).bind fun bt258 => (if bt258.1 = 0 then (er_dict.j0 k a1 bt258.1 true bt258.2.1 bt258.2.2) else (er_dict.j0 k a1 bt258.1 bt258.2.2 bt258.2.1 bt258.2.2))) = some (r1, r2, r3) := h
 clear h
 replace H := Option.bind_eq_some_iff.mp H
 obtain ⟨⟨t258, t259, t260⟩, A30, H⟩ := H
 replace H : (if t258 = 0 then (er_dict.j0 k a1 t258 true t259 t260) else (er_dict.j0 k a1 t258 t260 t259 t260)) = some (r1, r2, r3) := H
 have A3 := Ak A30
 clear A30
 have HC4 := Ak H
 clear H
 go_enter Try.func113, Try.ntmps113
 go_upto_region 2 with (first | ((with_reducible refine gate_callee (f := 79) rfl ?_); refine goesL_ (some 11) rfl rfl Try.func79 (by kernel_rfl) rfl #[.pointer (some ⟨g, 0, none⟩)] rfl (by (try simp only [lm]); rfl) ?_; (with_reducible refine (er_long.calls k g s0_0 s0_1 t258 t259 t260 w0 _ ?side1 ?side2 A3.out).mono ?_); (case side1 => exact HI0.out); (case side2 => exact HB.out); rintro e w5 ⟨rfl, hi, hb, hk⟩; refine ⟨_, rfl, ?_⟩; have n0_ := Ak (KeepBut.trans (by exact HK.out) hk (.inl rfl)); have n1_ := Ak (hb); have n2_ := Ak (hi); clear HK HB HI0; have HK := n0_; have HB := n1_; have HI0 := n2_; clear n0_ n1_ n2_; (try clear hb); (try clear hk); (try clear hi)))
 (try simp only [Act.put, List.setIfInBounds_toArray, List.set_cons_zero, List.set_cons_succ])
 go_cut [19] (fun v19 wc => ∃ (kq : Nat) (x19_3 : Bool), v19 = .bool x19_3 ∧ Aside0 (er_dict.j0 kq a1 t258 x19_3 t259 t260 = some (r1, r2, r3)) ∧ Aside0 (kq ≤ k) ∧ Aside0 (IsS71 w0 wc g t259 t260) ∧ Aside0 (KeepBut w wc g none) ∧ Aside0 (Below w0.heap.size w0 wc))
 case first =>
  have H := HC4.out
  clear HC4
  by_cases c6 : t258 = 0
  ·rw [if_pos c6] at H
   have c6b0 : (t258 == 0) = true := beq_iff_eq.mpr c6
   have c6b1 : (t258 != 0) = false := bne_eq_false_iff_eq.mpr c6
   clear c6
   (skip)
   (try rw [c6b1])
   have H' := Ak H
   clear H
   go_wp2
   go_meet
   case rel => exact ⟨_, (true), (by rfl), H', ⟨by omega⟩, ⟨by exact HI0.out⟩, ⟨by exact HK.out⟩, ⟨by exact HB.out⟩⟩
  ·rw [if_neg c6] at H
   have c6b0 : (t258 == 0) = false := beq_eq_false_iff_ne.mpr c6
   have c6b1 : (t258 != 0) = true := bne_iff_ne.mpr c6
   (skip)
   (try rw [c6b1])
   have H' := Ak H
   clear H
   obtain ⟨ASz7_0, cSz7_0, HGz7, hgz7, HSz7_0⟩ := HI0.out
   have hcz7_0 := cellS71_0 HGz7
   have hcz7_1 := cellS71_1 HGz7
   have hfz7_0 := blk_frozen HGz7 0
   have hfz7_1 := blk_frozen HGz7 1
   have HCSz7_0 := HSz7_0.1
   replace HSz7_0 := HSz7_0.2
   clear HGz7 hgz7
   go_wp2
   go_meet
   case rel => exact ⟨_, (t260), (by rfl), H', ⟨by omega⟩, ⟨by exact HI0.out⟩, ⟨by exact HK.out⟩, ⟨by exact HB.out⟩⟩
 case rest =>
  clear HC4
  obtain ⟨kq, x19_3, rfl, HA, HJ3, HI0, HK, HB⟩ := hcut
  cases kq with
  | zero => exact absurd HA.out (by simp [er_dict.j0])
  | succ kj3 =>
   have H := HA.out
   clear HA
   simp only [er_dict.j0] at H
   by_cases c8 : x19_3 = true
   ·subst c8
    replace H : (some (([] : List Int), t259, true)) = some (r1, r2, r3) := by rw [if_pos rfl] at H; exact H
    simp only [Option.some.injEq, Prod.mk.injEq] at H
    obtain ⟨rfl, rfl, rfl⟩ := H
    obtain ⟨ASz9_0, cSz9_0, HGz9, hgz9, HSz9_0⟩ := HI0.out
    have hcz9_0 := cellS71_0 HGz9
    have hcz9_1 := cellS71_1 HGz9
    have hfz9_0 := blk_frozen HGz9 0
    have hfz9_1 := blk_frozen HGz9 1
    have HCSz9_0 := HSz9_0.1
    replace HSz9_0 := HSz9_0.2
    clear HGz9 hgz9
    go_wp2
    go_ret
    exact ⟨_, by rfl, by exact Kd.R_nil _ _ _ _ _, by repeat ((with_reducible first | exact HI0.out | apply IsS71.set_1)), by repeat ((with_reducible first | exact HB.out | refine below_set ?_ (IsS71.ge HI0.out))), by repeat ((with_reducible first | exact HK.out | apply KeepBut.set_ ))⟩
   ·replace c8 := Bool.eq_false_iff.mpr c8
    subst c8
    replace H : ((er_number.f kj3 t259 t260).bind fun bt261 => (er_dict.l0 kj3 a1 t258 (([bt261.1] : List Int)) bt261.2.1 bt261.2.2)) = some (r1, r2, r3) := by rw [if_neg (show ¬ (false = true) by decide)] at H; exact H
    replace H := Option.bind_eq_some_iff.mp H
    obtain ⟨⟨t261, t262, t263⟩, A100, H⟩ := H
    replace H : (er_dict.l0 kj3 a1 t258 (([t261] : List Int)) t262 t263) = some (r1, r2, r3) := H
    have A10 := Ak A100
    clear A100
    obtain ⟨y264, hy264⟩ : ∃ y_ : List Int, y_ = (([t261] : List Int)) := ⟨_, rfl⟩
    replace H : (er_dict.l0 kj3 a1 t258 y264 t262 t263) = some (r1, r2, r3) := by (rw [hy264]; with_reducible exact H)
    have Ny264 := Ak hy264
    clear hy264
    have HC11 := Ak H
    clear H
    go_upto_block 0 with (first | ((with_reducible refine gate_callee (f := 111) rfl ?_); refine goesL_ (some 24) rfl rfl Try.func111 (by kernel_rfl) rfl #[.pointer (some ⟨g, 0, none⟩)] rfl (by (try simp only [lm]); rfl) ?_; (with_reducible refine (er_number.calls kj3 g t259 t260 t261 t262 t263 w0 _ ?side1 ?side2 A10.out).mono ?_); (case side1 => exact HI0.out); (case side2 => exact HB.out); rintro e w12 ⟨rfl, hi, hb, hk⟩; refine ⟨_, rfl, ?_⟩; have n0_ := Ak (KeepBut.trans (by exact HK.out) hk (.inl rfl)); have n1_ := Ak (hb); have n2_ := Ak (hi); clear HK HB HI0; have HK := n0_; have HB := n1_; have HI0 := n2_; clear n0_ n1_ n2_; (try clear hb); (try clear hk); (try clear hi)) | ((with_reducible refine gate_dst (N := 25) rfl ?_); refine Kd.R_lit (Kd.int .i64) _ 3 ?hg (N := 25) ?hd (xs := ([t261] : List Int)) (inner := [.int .i64 t261]) (ok := fun _ => True) (okp := fun _ => True) ?hr ?hp (fun _ hk => hk) trivial (Below.refl _ _) (Nat.le_refl _) (by simp) ?_; (case hd => rfl); (case hg => rfl); (case hr => (go_simp; done)); (case hp => exact (Reps.one (show Kd.M (Kd.int .i64) _ _ _ t261 [.int .i64 t261] from rfl) (Reps.none _ _))); intro v265 w13 ho14 hb hg_ hnew_; clear hg_ hnew_; (rw [← Ny264.out] at ho14); have n0_ := Ak (Kd.R_lower ho14 (keep_size (w := w) (g := g) (row := none) (by exact HK.out))); have n1_ := Ak (IsS71.below (by exact HI0.out) hb); have n2_ := Ak (KeepBut.trans (by exact HK.out) (KeepBut.of_below hb g none) (.inl rfl)); have n3_ := Ak (below_step (by exact HB.out) hb); clear HI0 HK HB; have HO266 := n0_; have HI0 := n1_; have HK := n2_; have HB := n3_; clear n0_ n1_ n2_ n3_ hb ho14))
    (try simp only [Act.put, List.setIfInBounds_toArray, List.set_cons_zero, List.set_cons_succ])
    go_cut [6] (fun v6 wc => ∃ (kq : Nat) (x6_10 : List Int) (x1000_10 : List Int) (x1001_10 : Bool), Aside0 (er_dict.j2 kq a1 t258 x6_10 x1000_10 x1001_10 = some (r1, r2, r3)) ∧ Aside0 (kq ≤ kj3) ∧ Aside0 (Kd.R (Kd.int .i64) 3 wc w.heap.size (fun _ => True) v6 x6_10) ∧ Aside0 (IsS71 w0 wc g x1000_10 x1001_10) ∧ Aside0 (KeepBut w wc g none) ∧ Aside0 (Below w0.heap.size w0 wc))
    case first =>
     have H := HC11.out
     clear HC11
     have H' := Ak H
     clear H
     go_wp2
     go_loopg [6] kj3 (fun kq v6 w' => ∃ (x6_2 : List Int) (x1000_2 : List Int) (x1001_2 : Bool), Aside0 (er_dict.l0 kq a1 t258 x6_2 x1000_2 x1001_2 = some (r1, r2, r3)) ∧ Aside0 (kq ≤ kj3) ∧ Aside0 (Kd.R (Kd.int .i64) 3 w' w.heap.size (fun _ => True) v6 x6_2) ∧ Aside0 (IsS71 w0 w' g x1000_2 x1001_2) ∧ Aside0 (KeepBut w w' g none) ∧ Aside0 (Below w0.heap.size w0 w'))
     case atStart => exact ⟨(y264), (t262), (t263), H', ⟨Nat.le_refl _⟩, ⟨by exact HO266.out⟩, ⟨by exact HI0.out⟩, ⟨by exact HK.out⟩, ⟨by exact HB.out⟩⟩
     case round =>
      clear H'
      obtain ⟨x6_2, x1000_2, x1001_2, HA, HK2, HO_6, HI0, HK, HB⟩ := hrel
      cases gk with
      | zero => exact absurd HA.out (by simp [er_dict.l0])
      | succ k2 =>
       have H := HA.out
       clear HA
       simp only [er_dict.l0] at H
       by_cases c15 : (x6_2.length : Int) < t258
       ·rw [if_pos c15] at H
        have c15b0 : decide ((x6_2.length : Int) < t258) = true := decide_eq_true c15
        clear c15
        (skip)
        (try rw [c15b1])
        by_cases c16 : x1001_2 = true
        ·subst c16
         replace H : (er_dict.j2 k2 a1 t258 x6_2 x1000_2 true) = some (r1, r2, r3) := by rw [if_pos rfl] at H; exact H
         have H' := Ak H
         clear H
         obtain ⟨Ao17, co17, eo17⟩ := Kd.R_slice HO_6.out
         subst eo17
         obtain ⟨ASz18_0, cSz18_0, HGz18, hgz18, HSz18_0⟩ := HI0.out
         have hcz18_0 := cellS71_0 HGz18
         have hcz18_1 := cellS71_1 HGz18
         have hfz18_0 := blk_frozen HGz18 0
         have hfz18_1 := blk_frozen HGz18 1
         have HCSz18_0 := HSz18_0.1
         replace HSz18_0 := HSz18_0.2
         clear HGz18 hgz18
         go_wp2
         go_meet
         case rel => exact ⟨_, (x6_2), (x1000_2), (true), H', ⟨by have := HJ3.out; have := HK2.out; omega⟩, ⟨by exact HO_6.out⟩, ⟨by exact HI0.out⟩, ⟨by exact HK.out⟩, ⟨by exact HB.out⟩⟩
        ·replace c16 := Bool.eq_false_iff.mpr c16
         subst c16
         replace H : (if 0 ≤ (wrap64 ((x6_2.length : Int) - 1)) then (if (wrap64 ((x6_2.length : Int) - 1)) < (x6_2.length : Int) then ((er_count.f k2 x1000_2 false).bind fun bt268 => (if x6_2.length < 17592186044416 then (er_dict.l0 k2 a1 t258 (x6_2 ++ [wrap64 ((rd x6_2 (wrap64 ((x6_2.length : Int) - 1))) + bt268.1)]) bt268.2.1 bt268.2.2) else (none))) else (none)) else (none)) = some (r1, r2, r3) := by rw [if_neg (show ¬ (false = true) by decide)] at H; exact H
         obtain ⟨ji19, hji19⟩ : ∃ j_ : Int, (wrap64 ((x6_2.length : Int) - 1)) = j_ := ⟨_, rfl⟩
         replace H : (if 0 ≤ (ji19) then (if (ji19) < (x6_2.length : Int) then ((er_count.f k2 x1000_2 false).bind fun bt268 => (if x6_2.length < 17592186044416 then (er_dict.l0 k2 a1 t258 (x6_2 ++ [wrap64 ((rd x6_2 (ji19)) + bt268.1)]) bt268.2.1 bt268.2.2) else (none))) else (none)) else (none)) = some (r1, r2, r3) := by (rw [hji19] at H; exact H)
         have hji19w : (IntKind.i64.wrap ((x6_2.length : Int) - 1)) = ji19 := (i64_w _).trans hji19
         by_cases c20 : 0 ≤ (ji19)
         ·rw [if_pos c20] at H
          have c20b0 : decide (0 ≤ (ji19)) = true := decide_eq_true c20
          clear c20
          by_cases c21 : (ji19) < (x6_2.length : Int)
          ·rw [if_pos c21] at H
           have c21b0 : decide ((ji19) < (x6_2.length : Int)) = true := decide_eq_true c21
           clear c21
           replace H := Option.bind_eq_some_iff.mp H
           obtain ⟨⟨t268, t269, t270⟩, A220, H⟩ := H
           replace H : (if x6_2.length < 17592186044416 then (er_dict.l0 k2 a1 t258 (x6_2 ++ [wrap64 ((rd x6_2 (ji19)) + t268)]) t269 t270) else (none)) = some (r1, r2, r3) := H
           have A22 := Ak A220
           clear A220
           by_cases c23 : x6_2.length < 17592186044416
           ·rw [if_pos c23] at H
            have LMc23 := Ak c23
            clear c23
            obtain ⟨y271, hy271⟩ : ∃ y_ : List Int, y_ = (x6_2 ++ [wrap64 ((rd x6_2 (ji19)) + t268)]) := ⟨_, rfl⟩
            replace H : (er_dict.l0 k2 a1 t258 y271 t269 t270) = some (r1, r2, r3) := by (rw [hy271]; with_reducible exact H)
            have Ny271 := Ak hy271
            clear hy271
            have H' := Ak H
            clear H
            obtain ⟨Ao24, co24, eo24⟩ := Kd.R_slice HO_6.out
            subst eo24
            obtain ⟨ASz25_0, cSz25_0, HGz25, hgz25, HSz25_0⟩ := HI0.out
            have hcz25_0 := cellS71_0 HGz25
            have hcz25_1 := cellS71_1 HGz25
            have hfz25_0 := blk_frozen HGz25 0
            have hfz25_1 := blk_frozen HGz25 1
            have HCSz25_0 := HSz25_0.1
            replace HSz25_0 := HSz25_0.2
            clear HGz25 hgz25
            try go_wp2
            have n0_ := Ak (Kd.R_drew HO_6.out)
            have n1_ := Ak (IsS71.drew HI0.out)
            have n2_ := Ak (keep_drew HK.out)
            have n3_ := Ak (below_drew1 HB.out)
            clear HO_6 HI0 HK HB
            have HO_6 := n0_
            have HI0 := n1_
            have HK := n2_
            have HB := n3_
            clear n0_ n1_ n2_ n3_
            have p267 : 0 ≤ ((ji19) : Int) := of_decide_eq_true (by (with_reducible assumption))
            have q267 : (ji19) < (x6_2.length : Int) := of_decide_eq_true (by (with_reducible assumption))
            obtain ⟨ad267, e267, hx267_0⟩ := Kd.at_int (Kd.R_reads' HO_6.out).2.2 (ji19) p267 q267
            cases e267
            replace p267 := eq_true p267
            replace q267 := eq_true q267
            refine start_ (n := 13) (S := fun w' => w'.cell? (ad267.add ((ji19)).toNat) = some (.int .i64 (rd x6_2 (ji19)))) (ds := [10, 11]) #[false, false, false, false, false, false, false, false, false, false, false, false, false] (by kernel_rfl) rfl rfl (hx267_0) (fun hHeld => ?_); refine with_tabW er_dict.tab7 er_dict.bits7 (fun HT_ HW_ => ?_)
            generalize wr.drew = w26 at HO_6 HI0 HK HB hx267_0 hHeld ⊢
            refine pure_ (i := 0) (N := some 37) (v := ?_) (a' := ?_) #[true, false, false, false, false, false, false, false, false, false, false, false, false] rfl rfl (any_of HT_.out (by kernel_rfl)) (fun _ _ _ h => h) (Or.inl ⟨by rfl, ?_⟩) ?_ ?_
            rotate_left
            ·intro w'
             go_simp
             with_reducible rfl
            rotate_left
            ·simp only [Act.put, List.setIfInBounds_toArray, List.set_cons_zero, List.set_cons_succ, i64_w, i32_w]
             rfl
            refine pure_ (i := 1) (N := some 38) (v := ?_) (a' := ?_) #[true, true, false, false, false, false, false, false, false, false, false, false, false] rfl rfl (any_of HT_.out (by kernel_rfl)) (fun _ _ _ h => h) (Or.inl ⟨by rfl, ?_⟩) ?_ ?_
            rotate_left
            ·intro w'
             go_simp
             with_reducible rfl
            rotate_left
            ·simp only [Act.put, List.setIfInBounds_toArray, List.set_cons_zero, List.set_cons_succ, i64_w, i32_w]
             rfl
            refine pure_ (i := 2) (N := some 39) (v := ?_) (a' := ?_) #[true, true, true, false, false, false, false, false, false, false, false, false, false] rfl rfl (any_of HT_.out (by kernel_rfl)) (fun _ _ _ h => h) (Or.inl ⟨by rfl, ?_⟩) ?_ ?_
            rotate_left
            ·intro w'
             go_simp
             with_reducible rfl
            rotate_left
            ·simp only [Act.put, List.setIfInBounds_toArray, List.set_cons_zero, List.set_cons_succ, i64_w, i32_w]
             rfl
            refine pure_ (i := 3) (N := some 40) (v := ?_) (a' := ?_) #[true, true, true, true, false, false, false, false, false, false, false, false, false] rfl rfl (any_of HT_.out (by kernel_rfl)) (fun _ _ _ h => h) (Or.inl ⟨by rfl, ?_⟩) ?_ ?_
            rotate_left
            ·intro w'
             go_simp
             with_reducible rfl
            rotate_left
            ·simp only [Act.put, List.setIfInBounds_toArray, List.set_cons_zero, List.set_cons_succ, i64_w, i32_w]
             rfl
            refine pure_ (i := 4) (N := some 41) (v := ?_) (a' := ?_) #[true, true, true, true, true, false, false, false, false, false, false, false, false] rfl rfl (any_of HT_.out (by kernel_rfl)) (fun _ _ _ h => h) (Or.inl ⟨by rfl, ?_⟩) ?_ ?_
            rotate_left
            ·intro w'
             go_simp
             with_reducible rfl
            rotate_left
            ·simp only [Act.put, List.setIfInBounds_toArray, List.set_cons_zero, List.set_cons_succ, i64_w, i32_w]
             rfl
            refine pure_ (i := 5) (N := some 42) (v := ?_) (a' := ?_) #[true, true, true, true, true, true, false, false, false, false, false, false, false] rfl rfl (any_of HT_.out (by kernel_rfl)) (fun _ _ _ h => h) (Or.inl ⟨by rfl, ?_⟩) ?_ ?_
            rotate_left
            ·intro w'
             go_simp
             with_reducible rfl
            rotate_left
            ·simp only [Act.put, List.setIfInBounds_toArray, List.set_cons_zero, List.set_cons_succ, i64_w, i32_w]
             rfl
            refine pure_ (i := 7) (N := some 44) (v := ?_) (a' := ?_) #[true, true, true, true, true, true, false, true, false, false, false, false, false] rfl rfl (any_of HT_.out (by kernel_rfl)) (fun _ _ _ h => h) (Or.inl ⟨by rfl, ?_⟩) ?_ ?_
            rotate_left
            ·intro w'
             go_simp
             with_reducible rfl
            rotate_left
            ·simp only [Act.put, List.setIfInBounds_toArray, List.set_cons_zero, List.set_cons_succ, i64_w, i32_w]
             rfl
            refine take_ (i := 6) (N := some 43) (v := ?_) (a' := ?_) #[true, true, true, true, true, true, true, true, false, false, false, false, false] rfl rfl (take_ofW HT_.out HW_.out (by kernel_rfl)) (fun _ _ _ h => h) (Or.inl ⟨by rfl, ?_⟩) hHeld ?_ ?_
            rotate_left
            ·intro w' s0
             go_simp
             with_reducible rfl
            rotate_left
            ·simp only [Act.put, List.setIfInBounds_toArray, List.set_cons_zero, List.set_cons_succ, i64_w, i32_w]
             rfl
            refine one_ (i := 8) (N := some 45) #[true, true, true, true, true, true, true, true, true, false, false, false, false] rfl rfl (one_of HT_.out (by kernel_rfl)) (by decide) (fun K hK => ?_)
            refine goes_ Try.func57 (by kernel_rfl) rfl #[.pointer (some ⟨g, 0, none⟩)] (by rfl) rfl rfl (by (try simp only [lm]); rfl) ?_
            with_reducible refine (er_count.calls k2 g x1000_2 false t268 t269 t270 w0 _ ?side1 ?side2 A22.out).mono ?_
            (case side1 => exact HI0.out)
            (case side2 => exact HB.out)
            rintro e w27 ⟨rfl, hi, hb, hk⟩
            have HS0_ := keep_cell hk (hHeld) (by (rw [add_block]; exact Kd.own_blk (IsS71.own_ne HI0.out HO_6.out (by decide))))
            refine ⟨_, rfl, ?_⟩
            have n0_ := Ak (Kd.R_mono (Kd.R_keep (IsS71.apart (show IsS71 w0 _ g x1000_2 false from by exact HI0.out) (by exact HO_6.out) (by decide)) hk (fun _ h => h.2)) (fun _ h => h.1))
            have n1_ := Ak (KeepBut.trans (by exact HK.out) hk (.inl rfl))
            have n2_ := Ak (hb)
            have n3_ := Ak (hi)
            clear HO_6 HK HB HI0
            have HO_6 := n0_
            have HK := n1_
            have HB := n2_
            have HI0 := n3_
            clear n0_ n1_ n2_ n3_
            (try clear hb)
            (try clear hb2)
            (try clear hk)
            (try clear hi)
            refine hK.out _ _ (HS0_) (fun hHeld => ?_)
            clear hK K
            refine norm_ (a' := ?_) ?_ ?_
            rotate_left
            ·show Act.put _ (some 45) _ = _
             simp only [Act.put, List.setIfInBounds_toArray, List.set_cons_zero, List.set_cons_succ, i64_w, i32_w]
             rfl
            refine pure_ (i := 9) (N := some 46) (v := ?_) (a' := ?_) #[true, true, true, true, true, true, true, true, true, true, false, false, false] rfl rfl (any_of HT_.out (by kernel_rfl)) (fun _ _ _ h => h) (Or.inl ⟨by rfl, ?_⟩) ?_ ?_
            rotate_left
            ·intro w'
             go_simp
             with_reducible rfl
            rotate_left
            ·simp only [Act.put, List.setIfInBounds_toArray, List.set_cons_zero, List.set_cons_succ, i64_w, i32_w]
             rfl
            refine last_ (i := 10) (N := some 47) #[true, true, true, true, true, true, true, true, true, true, true, false, false] rfl rfl (one_of HT_.out (by kernel_rfl)) (by decide) (fun K hK => ?_)
            refine value_ (w1 := ?_) (v := ?_) (by rfl) rfl ?_ ?_
            rotate_left 2
            ·go_simp
             constructor
             ·rfl
             ·rfl
            refine hK.out _ _ ?_
            clear hK K
            refine norm_ (a' := ?_) ?_ ?_
            rotate_left
            ·show Act.put _ (some 47) _ = _
             simp only [Act.put, List.setIfInBounds_toArray, List.set_cons_zero, List.set_cons_succ, i64_w, i32_w]
             rfl
            refine last_ (i := 11) (N := some 48) #[true, true, true, true, true, true, true, true, true, true, true, true, false] rfl rfl (one_of HT_.out (by kernel_rfl)) (by decide) (fun K hK => ?_)
            refine Kd.R_append_step (Kd.int .i64) w.heap.size (by rfl) (.tmp 37) (.tmp 47) 22 3 (.int .i64 0) 8 rfl Try.underlying22 info3 rfl (by decide) (by omega) (.slice (some ad267) x6_2.length co24) x6_2 (wrap64 ((rd x6_2 (ji19)) + t268)) [.int .i64 (wrap64 ((rd x6_2 (ji19)) + t268))] (fun _ => True) (fun _ => False) rfl rfl ?aP (fun _ hk => hk.elim) ?aF ?aO (Below.refl _ _) ?aS ?aL ?_
            (case aP => exact rfl)
            (case aF => exact (fun _ _ => trivial))
            (case aO => exact (by exact HO_6.out))
            (case aS => exact (keep_size (w := w) (g := g) (row := none) (by exact HK.out)))
            (case aL => have := LMc23.out; omega)
            intro v272 w28 ho hb hg hat
            rw [← Ny271.out] at ho
            have n0_ := Ak (IsS71.grown (by exact HI0.out) hg (IsS71.own_ne HI0.out HO_6.out (by decide)))
            have n1_ := Ak (below_weaken (by exact HB.out) HL.out hb)
            have n2_ := Ak (KeepBut.trans (by exact HK.out) (KeepBut.of_grown hg g) (Kd.R_base2 HO_6.out))
            have n3_ := Ak (ho)
            clear HI0 HB HK HO_6
            have HI0 := n0_
            have HB := n1_
            have HK := n2_
            have HO273 := n3_
            clear n0_ n1_ n2_ n3_ ho hb hg hat
            refine hK.out _ _ ?_
            clear hK K
            refine norm_ (a' := ?_) ?_ ?_
            rotate_left
            ·show Act.put _ (some 48) _ = _
             simp only [Act.put, List.setIfInBounds_toArray, List.set_cons_zero, List.set_cons_succ, i64_w, i32_w]
             rfl
            refine pure_ (i := 12) (N := some 6) (v := ?_) (a' := ?_) #[true, true, true, true, true, true, true, true, true, true, true, true, true] rfl rfl (any_of HT_.out (by kernel_rfl)) (fun _ _ _ h => h) (Or.inl ⟨by rfl, ?_⟩) ?_ ?_
            rotate_left
            ·intro w'
             go_simp
             with_reducible rfl
            rotate_left
            ·simp only [Act.put, List.setIfInBounds_toArray, List.set_cons_zero, List.set_cons_succ, i64_w, i32_w]
             rfl
            refine done_ (done_of HT_.out (by kernel_rfl)) ?_
            try go_wp2
            go_roundg k2
            case measure => have := HJ3.out; have := HK2.out; omega
            case rel => exact ⟨(y271), (t269), (t270), H', ⟨by have := HJ3.out; have := HK2.out; omega⟩, ⟨by exact HO273.out⟩, ⟨by exact HI0.out⟩, ⟨by exact HK.out⟩, ⟨by exact HB.out⟩⟩
           ·rw [if_neg c23] at H
            exact absurd H (by simp)
          ·rw [if_neg c21] at H
           exact absurd H (by simp)
         ·rw [if_neg c20] at H
          exact absurd H (by simp)
       ·rw [if_neg c15] at H
        have c15b0 : decide ((x6_2.length : Int) < t258) = false := decide_eq_false c15
        clear c15
        (skip)
        (try rw [c15b1])
        have H' := Ak H
        clear H
        obtain ⟨Ao29, co29, eo29⟩ := Kd.R_slice HO_6.out
        subst eo29
        go_wp2
        go_meet
        case rel => exact ⟨_, (x6_2), (x1000_2), (x1001_2), H', ⟨by have := HJ3.out; have := HK2.out; omega⟩, ⟨by exact HO_6.out⟩, ⟨by exact HI0.out⟩, ⟨by exact HK.out⟩, ⟨by exact HB.out⟩⟩
    case rest =>
     clear HC11
     obtain ⟨kq, x6_10, x1000_10, x1001_10, HA, HJ10, HO_6, HI0, HK, HB⟩ := hcut
     cases kq with
     | zero => exact absurd HA.out (by simp [er_dict.j2])
     | succ kj10 =>
      have H := HA.out
      clear HA
      simp only [er_dict.j2] at H
      by_cases c30 : x1001_10 = true
      ·subst c30
       replace H : (some (([] : List Int), x1000_10, true)) = some (r1, r2, r3) := by rw [if_pos rfl] at H; exact H
       simp only [Option.some.injEq, Prod.mk.injEq] at H
       obtain ⟨rfl, rfl, rfl⟩ := H
       obtain ⟨ASz31_0, cSz31_0, HGz31, hgz31, HSz31_0⟩ := HI0.out
       have hcz31_0 := cellS71_0 HGz31
       have hcz31_1 := cellS71_1 HGz31
       have hfz31_0 := blk_frozen HGz31 0
       have hfz31_1 := blk_frozen HGz31 1
       have HCSz31_0 := HSz31_0.1
       replace HSz31_0 := HSz31_0.2
       clear HGz31 hgz31
       go_wp2
       go_ret
       exact ⟨_, by rfl, by exact Kd.R_nil _ _ _ _ _, by exact HI0.out, by exact HB.out, by exact HK.out⟩
      ·replace c30 := Bool.eq_false_iff.mpr c30
       subst c30
       replace H : ((e_widthOf.f (wrap64 (t258 - 1))).bind fun t274 => ((er_packed.f kj10 x1000_10 false a1 t274).bind fun bt275 => (er_dict.l1 kj10 t258 x6_10 bt275.1 (bt275.1.length : Int) 0 bt275.2.1 bt275.2.2))) = some (r1, r2, r3) := by rw [if_neg (show ¬ (false = true) by decide)] at H; exact H
       replace H := Option.bind_eq_some_iff.mp H
       obtain ⟨t274, A320, H⟩ := H
       replace H : ((er_packed.f kj10 x1000_10 false a1 t274).bind fun bt275 => (er_dict.l1 kj10 t258 x6_10 bt275.1 (bt275.1.length : Int) 0 bt275.2.1 bt275.2.2)) = some (r1, r2, r3) := H
       have A32 := Ak A320
       clear A320
       replace H := Option.bind_eq_some_iff.mp H
       obtain ⟨⟨t275, t278, t279⟩, A330, H⟩ := H
       replace H : (er_dict.l1 kj10 t258 x6_10 t275 (t275.length : Int) 0 t278 t279) = some (r1, r2, r3) := H
       have A33 := Ak A330
       clear A330
       have H' := Ak H
       clear H
       obtain ⟨ASz34_0, cSz34_0, HGz34, hgz34, HSz34_0⟩ := HI0.out
       have hcz34_0 := cellS71_0 HGz34
       have hcz34_1 := cellS71_1 HGz34
       have hfz34_0 := blk_frozen HGz34 0
       have hfz34_1 := blk_frozen HGz34 1
       have HCSz34_0 := HSz34_0.1
       replace HSz34_0 := HSz34_0.2
       clear HGz34 hgz34
       go_wp2_with (first | ((with_reducible refine gate_callee (f := 78) rfl ?_); refine goesL_ (some 57) rfl rfl Try.func78 (by kernel_rfl) rfl #[.int .i64 (wrap64 (t258 - 1))] rfl (by (try simp only [lm]); rfl) ?_; (with_reducible refine (e_widthOf.calls (wrap64 (t258 - 1)) t274 _ A32.out).mono ?_); rintro e w' ⟨rfl, ⟨nd, rfl⟩⟩; refine ⟨_, rfl, ?_⟩) | ((with_reducible refine gate_callee (f := 114) rfl ?_); refine goesL_ (some 58) rfl rfl Try.func114 (by kernel_rfl) rfl #[.pointer (some ⟨g, 0, none⟩), .int .i64 a1, .int .i64 t274] rfl (by (try simp only [lm]); rfl) ?_; (with_reducible refine (er_packed.calls kj10 g x1000_10 false a1 t274 t275 t278 t279 w0 _ ?side1 ?side2 A33.out).mono ?_); (case side1 => repeat ((with_reducible first | exact HI0.out | apply IsS71.drewN ))); (case side2 => repeat ((with_reducible first | exact HB.out | apply pw_below_drewN ))); rintro e w35 ⟨v276, rfl, ho0, hi, hb, hk⟩; refine ⟨_, rfl, ?_⟩; have n0_ := Ak (Kd.R_mono (Kd.R_told (Kd.R_oldK (IsS71.apart (show IsS71 w0 _ g x1000_10 false from by repeat ((with_reducible first | exact HI0.out | apply IsS71.drewN ))) (by (with_reducible repeat (apply Kd.R_drewN)); exact HO_6.out) (by decide)) hk) (Kd.R_base ho0)) (fun _ h_ => h_.1)); have n1_ := Ak (Kd.R_lower (Kd.R_new' ho0 (Kd.R_lt (by (with_reducible repeat (apply Kd.R_drewN)); exact HO_6.out))) (keep_size (w := w) (g := g) (row := none) (by repeat ((with_reducible first | exact HK.out | apply keep_drewN ))))); have n2_ := Ak (KeepBut.trans (by repeat ((with_reducible first | exact HK.out | apply keep_drewN ))) hk (.inl rfl)); have n3_ := Ak (hb); have n4_ := Ak (hi); clear HO_6 HK HB HI0; have HO_6 := n0_; have HO277 := n1_; have HK := n2_; have HB := n3_; have HI0 := n4_; clear n0_ n1_ n2_ n3_ n4_; (try clear hb); (try clear hk); (try clear hi); (try clear ho0); obtain ⟨Ao36, co36, eo36⟩ := Kd.R_slice HO277.out; subst eo36))
       go_loopg [61] kj10 (fun kq v61 w' => ∃ (x7_3 : List Int) (x61_3 : Int) (x1001_3 : Bool), v61 = .int .i64 x61_3 ∧ Aside0 (er_dict.l1 kq t258 x6_10 x7_3 (t275.length : Int) x61_3 t278 x1001_3 = some (r1, r2, r3)) ∧ Aside0 (kq ≤ kj10) ∧ Aside0 (Kd.R (Kd.int .i64) 3 w' w.heap.size (fun k_ => some k_ ≠ ((.slice Ao36 t275.length co36) : Value).ownBlock) u6 x6_10) ∧ Aside0 (Kd.R (Kd.int .i64) 3 w' w.heap.size (fun k_ => some k_ ≠ (u6 : Value).ownBlock) (.slice Ao36 t275.length co36) x7_3) ∧ Aside0 (IsS71 w0 w' g t278 x1001_3) ∧ Aside0 (KeepBut w w' g none) ∧ Aside0 (Below w0.heap.size w0 w'))
       case atStart => exact ⟨(t275), (0), (t279), (by rfl), H', ⟨Nat.le_refl _⟩, ⟨by exact Kd.R_mono HO_6.out (fun _ hk => hk.2)⟩, ⟨by exact Kd.R_mono HO277.out (fun _ hk => hk.2)⟩, ⟨by exact HI0.out⟩, ⟨by exact HK.out⟩, ⟨by exact HB.out⟩⟩
       case round =>
        clear H'
        try clear hcz34_0
        try clear hcz34_1
        try clear hfz34_0
        try clear hfz34_1
        obtain ⟨x7_3, x61_3, x1001_3, rfl, HA, HK3, HO_6, HO_7, HI0, HK, HB⟩ := hrel
        have hl7_3 := (Kd.R_reads' HO_7.out).1
        rw [hl7_3] at HO_7
        (try simp only [hl7_3])
        (try simp only [hl7_3] at HO_6)
        cases gk with
        | zero => exact absurd HA.out (by simp [er_dict.l1])
        | succ k3 =>
         have H := HA.out
         clear HA
         simp only [er_dict.l1] at H
         by_cases c37 : x61_3 < (t275.length : Int)
         ·rw [if_pos c37] at H
          have c37b0 : decide (x61_3 < (t275.length : Int)) = true := decide_eq_true c37
          have c37l0 := c37b0
          (try rw [hl7_3] at c37l0)
          clear c37
          by_cases c38 : 0 ≤ x61_3
          ·rw [if_pos c38] at H
           have c38b0 : decide (0 ≤ x61_3) = true := decide_eq_true c38
           clear c38
           by_cases c39 : x61_3 < (x7_3.length : Int)
           ·rw [if_pos c39] at H
            have c39b0 : decide (x61_3 < (x7_3.length : Int)) = true := decide_eq_true c39
            have c39l0 := c39b0
            (try rw [hl7_3] at c39l0)
            clear c39
            by_cases c40 : (rd x7_3 x61_3) ≥ t258
            ·rw [if_pos c40] at H
             have c40b0 : decide (t258 ≤ (rd x7_3 x61_3)) = true := decide_eq_true c40
             clear c40
             simp only [Option.some.injEq, Prod.mk.injEq] at H
             obtain ⟨rfl, rfl, rfl⟩ := H
             have p280 : 0 ≤ (x61_3 : Int) := of_decide_eq_true (by (with_reducible assumption))
             have q280 : x61_3 < (x7_3.length : Int) := of_decide_eq_true (by (with_reducible assumption))
             obtain ⟨ad280, e280, hx280_0⟩ := Kd.at_int (Kd.R_reads' HO_7.out).2.2 x61_3 p280 q280
             cases e280
             replace p280 := eq_true p280
             replace q280 := eq_true q280
             obtain ⟨ASz41_0, cSz41_0, HGz41, hgz41, HSz41_0⟩ := HI0.out
             have hcz41_0 := cellS71_0 HGz41
             have hcz41_1 := cellS71_1 HGz41
             have hfz41_0 := blk_frozen HGz41 0
             have hfz41_1 := blk_frozen HGz41 1
             have HCSz41_0 := HSz41_0.1
             replace HSz41_0 := HSz41_0.2
             clear HGz41 hgz41
             go_wp2
             go_ret
             exact ⟨_, by rfl, by exact Kd.R_nil _ _ _ _ _, by repeat ((with_reducible first | exact HI0.out | apply IsS71.set_1)), by repeat ((with_reducible first | exact HB.out | refine below_set ?_ (IsS71.ge HI0.out))), by repeat ((with_reducible first | exact HK.out | apply KeepBut.set_ ))⟩
            ·rw [if_neg c40] at H
             have c40b0 : decide (t258 ≤ (rd x7_3 x61_3)) = false := decide_eq_false c40
             clear c40
             by_cases c42 : 0 ≤ (rd x7_3 x61_3)
             ·rw [if_pos c42] at H
              have c42b0 : decide (0 ≤ (rd x7_3 x61_3)) = true := decide_eq_true c42
              clear c42
              by_cases c43 : (rd x7_3 x61_3) < (x6_10.length : Int)
              ·rw [if_pos c43] at H
               have c43b0 : decide ((rd x7_3 x61_3) < (x6_10.length : Int)) = true := decide_eq_true c43
               have c43l0 := c43b0
               (try rw [hl7_3] at c43l0)
               clear c43
               obtain ⟨y282, hy282⟩ : ∃ y_ : List Int, y_ = (x7_3.set (x61_3 : Int).toNat (rd x6_10 (rd x7_3 x61_3))) := ⟨_, rfl⟩
               replace H : (er_dict.l1 k3 t258 x6_10 y282 (t275.length : Int) (wrap64 (x61_3 + 1)) t278 x1001_3) = some (r1, r2, r3) := by (rw [hy282]; with_reducible exact H)
               have Ny282 := Ak hy282
               clear hy282
               have H' := Ak H
               clear H
               have p280 : 0 ≤ (x61_3 : Int) := of_decide_eq_true (by (with_reducible assumption))
               have q280 : x61_3 < (x7_3.length : Int) := of_decide_eq_true (by (with_reducible assumption))
               obtain ⟨ad280, e280, hx280_0⟩ := Kd.at_int (Kd.R_reads' HO_7.out).2.2 x61_3 p280 q280
               cases e280
               replace p280 := eq_true p280
               replace q280 := eq_true q280
               obtain ⟨Ao45, co45, eo45⟩ := Kd.R_slice HO_6.out
               subst eo45
               have p281 : 0 ≤ ((rd x7_3 x61_3) : Int) := of_decide_eq_true (by (with_reducible assumption))
               have q281 : (rd x7_3 x61_3) < (x6_10.length : Int) := of_decide_eq_true (by (with_reducible assumption))
               obtain ⟨ad281, e281, hx281_0⟩ := Kd.at_int (Kd.R_reads' HO_6.out).2.2 (rd x7_3 x61_3) p281 q281
               cases e281
               replace p281 := eq_true p281
               replace q281 := eq_true q281
               have p44 : 0 ≤ (x61_3 : Int) := of_decide_eq_true (by (with_reducible assumption))
               have q44 : (x61_3 : Int) < ((x7_3.length : Int) : Int) := of_decide_eq_true (by (with_reducible assumption))
               obtain ⟨go44, co44, eo44, gb44, gl44, cl44, HG44⟩ := Kd.R_form HO_7.out (by omega)
               (cases eo44)
               have GB44 := Ak gb44
               have GG44 := Ak HG44
               clear gb44 gl44 HG44
               (simp only [add_plain] at hx280_0)
               obtain ⟨hx44_0, hf44_0⟩ := Kd.R_celln 0 HO_7.out (x61_3 : Int) p44 q44
               replace p44 := eq_true p44
               replace q44 := eq_true q44
               have HP46 := Kd.R_putg HO_7.out (x61_3 : Int) (rd x6_10 (rd x7_3 x61_3))
               go_wp2_with (first | ((with_reducible refine gate_store (t := 3) (p := 78) rfl ?_); refine store_event (t := 3) (p := 78) (v := ?vo_w47) (w1 := (wr.setCell ⟨go44, (x61_3 : Int).toNat, none⟩ (.int .i64 (rd x6_10 (rd x7_3 x61_3))))) ?hg ?ho ?hn ?hr ?_; (case ho => rfl); (case hg => rfl); (case hn => rfl); (case hr => (go_simp; done)); intro w47 hw; have hg : wr.grownBy w47 (some go44) := (by rw [hw]; exact HP46.2); have hp_ : Kd.R (Kd.int .i64) 3 w47 w.heap.size (fun k_ => some k_ ≠ (.slice (some ad281) x6_10.length co45 : Value).ownBlock) (.slice (some ⟨go44, 0, none⟩) x7_3.length co36) y282 := (by rw [hw, Ny282.out]; exact HP46.1); clear HP46; have n0_ := Ak (Kd.R_after (v := (.slice (some ⟨go44, 0, none⟩) x7_3.length co36)) (v1 := (.slice (some ⟨go44, 0, none⟩) x7_3.length co36)) (ok := (fun _ => True)) (by exact Kd.R_mono HO_6.out (fun _ hk => ⟨trivial, hk⟩)) hg (.inl rfl)); have n1_ := Ak (hp_); have n2_ := Ak (IsS71.grown (by exact HI0.out) hg (IsS71.own_ne HI0.out HO_7.out (by decide))); have n3_ := Ak ((by rw [hw]; exact below_set (HB.out) (Nat.le_trans HL.out GB44.out) : Below w0.heap.size w0 w47)); have n4_ := Ak (KeepBut.trans (by exact HK.out) (KeepBut.of_grown hg g) (Kd.R_base2 HO_7.out)); clear HO_6 HO_7 HI0 HB HK; have HO_6 := n0_; have HO_7 := n1_; have HI0 := n2_; have HB := n3_; have HK := n4_; clear n0_ n1_ n2_ n3_ n4_ hg hw hp_))
               (try simp only [← hl7_3])
               go_roundg k3
               case measure => have := HJ3.out; have := HJ10.out; have := HK3.out; omega
               case rel => exact ⟨(y282), (wrap64 (x61_3 + 1)), (x1001_3), (by rfl), H', ⟨by have := HJ3.out; have := HJ10.out; have := HK3.out; omega⟩, ⟨by (try simp only [hl7_3]); exact Kd.R_mono HO_6.out (fun _ hk => hk.2)⟩, ⟨by (try simp only [hl7_3]); exact HO_7.out⟩, ⟨by exact HI0.out⟩, ⟨by exact HK.out⟩, ⟨by exact HB.out⟩⟩
              ·rw [if_neg c43] at H
               exact absurd H (by simp)
             ·rw [if_neg c42] at H
              exact absurd H (by simp)
           ·rw [if_neg c39] at H
            exact absurd H (by simp)
          ·rw [if_neg c38] at H
           exact absurd H (by simp)
         ·rw [if_neg c37] at H
          have c37b0 : decide (x61_3 < (t275.length : Int)) = false := decide_eq_false c37
          have c37l0 := c37b0
          (try rw [hl7_3] at c37l0)
          clear c37
          simp only [Option.some.injEq, Prod.mk.injEq] at H
          obtain ⟨rfl, rfl, rfl⟩ := H
          go_wp2
          go_ret
          exact ⟨_, by rfl, by exact Kd.R_mono HO_7.out (fun _ hk => trivial), by exact HI0.out, by exact HB.out, by exact HK.out⟩
mutual
def er_values.j0 : Nat → Int → Int → List Int → Int → Bool → List Int → Bool → Option (List Int × List Int × Bool)
 | 0, _, _, _, _, _, _, _ => none
 | k + 1, x1, x2, x7, x13, x17, x1000, x1001 => if x17 = true then (er_values.l0 k x1 x2 x7 0 x1000 x1001) else (if x13 = 2 then ((er_runs.f k x1000 x1001 x2).bind fun bt300 => (some (bt300.1, bt300.2.1, bt300.2.2))) else (if x13 = 3 then ((er_dict.f k x1000 x1001 x2).bind fun bt305 => (some (bt305.1, bt305.2.1, bt305.2.2))) else (if x13 = 4 then ((er_number.f k x1000 x1001).bind fun bt310 => ((er_byte.f bt310.2.1 bt310.2.2).bind fun bt313 => (if bt313.1 > 52 then (er_values.j3 k x2 x7 bt310.1 bt313.1 bt313.2.1 true) else (er_values.j3 k x2 x7 bt310.1 bt313.1 bt313.2.1 bt313.2.2)))) else (some (x7, x1000, true)))))
def er_values.l0 : Nat → Int → Int → List Int → Int → List Int → Bool → Option (List Int × List Int × Bool)
 | 0, _, _, _, _, _, _ => none
 | k + 1, x1, x2, x7, x8, x1000, x1001 => if (x7.length : Int) < x2 then (er_values.j2 k x1 x2 x7 x8 (!x1001) x1000 x1001) else (er_values.j2 k x1 x2 x7 x8 false x1000 x1001)
def er_values.j2 : Nat → Int → Int → List Int → Int → Bool → List Int → Bool → Option (List Int × List Int × Bool)
 | 0, _, _, _, _, _, _, _ => none
 | k + 1, x1, x2, x7, x8, x30, x1000, x1001 => if x30 = true then ((er_number.f k x1000 x1001).bind fun bt283 => (if x1 = 5 then ((kit_In.f (wrap64 (bt283.1 + x8)) (-1000000000000000) 1000000000000000).bind fun t286 => (if t286 = true then (if x7.length < 17592186044416 then (er_values.l0 k x1 x2 (x7 ++ [wrap64 (bt283.1 + x8)]) (wrap64 (bt283.1 + x8)) bt283.2.1 bt283.2.2) else (none)) else (if x7.length < 17592186044416 then (er_values.l0 k x1 x2 (x7 ++ [wrap64 (bt283.1 + x8)]) (wrap64 (bt283.1 + x8)) bt283.2.1 true) else (none)))) else ((kit_In.f bt283.1 (-1000000000000000) 1000000000000000).bind fun t293 => (if t293 = true then (if x7.length < 17592186044416 then (er_values.l0 k x1 x2 (x7 ++ [bt283.1]) bt283.1 bt283.2.1 bt283.2.2) else (none)) else (if x7.length < 17592186044416 then (er_values.l0 k x1 x2 (x7 ++ [bt283.1]) bt283.1 bt283.2.1 true) else (none)))))) else (some (x7, x1000, x1001))
def er_values.j3 : Nat → Int → List Int → Int → Int → List Int → Bool → Option (List Int × List Int × Bool)
 | 0, _, _, _, _, _, _ => none
 | k + 1, x2, x7, x10, x11, x1000, x1001 => if x1001 = true then (er_values.j4 k x7 x10 x1000 x1001) else ((er_packed.f k x1000 x1001 x2 x11).bind fun bt316 => (er_values.j4 k bt316.1 x10 bt316.2.1 bt316.2.2))
def er_values.j4 : Nat → List Int → Int → List Int → Bool → Option (List Int × List Int × Bool)
 | 0, _, _, _, _ => none
 | k + 1, x7, x10, x1000, x1001 => er_values.l1 k x7 x10 (x7.length : Int) 0 x1000 x1001
def er_values.l1 : Nat → List Int → Int → Int → Int → List Int → Bool → Option (List Int × List Int × Bool)
 | 0, _, _, _, _, _, _ => none
 | k + 1, x7, x10, x80, x81, x1000, x1001 => if x81 < x80 then (if 0 ≤ x81 then (if x81 < (x7.length : Int) then (er_values.l1 k (x7.set (x81 : Int).toNat (wrap64 ((rd x7 x81) + x10))) x10 x80 (wrap64 (x81 + 1)) x1000 x1001) else (none)) else (none)) else (some (x7, x1000, x1001))
end
def er_values.f (k : Nat) (s0_0 : List Int) (s0_1 : Bool) (a1 : Int) (a2 : Int) : Option (List Int × List Int × Bool) := if a1 = 1 then (er_values.j0 k a1 a2 ([] : List Int) a1 (a1 == 1) s0_0 s0_1) else (er_values.j0 k a1 a2 ([] : List Int) a1 (a1 == 5) s0_0 s0_1)
theorem er_values.mono_l : ∀ k, (∀ y0 y1 y2 y3 y4 y5 y6, LeO (er_values.j0 k y0 y1 y2 y3 y4 y5 y6) (er_values.j0 (k + 1) y0 y1 y2 y3 y4 y5 y6)) ∧ (∀ y0 y1 y2 y3 y4 y5, LeO (er_values.l0 k y0 y1 y2 y3 y4 y5) (er_values.l0 (k + 1) y0 y1 y2 y3 y4 y5)) ∧ (∀ y0 y1 y2 y3 y4 y5 y6, LeO (er_values.j2 k y0 y1 y2 y3 y4 y5 y6) (er_values.j2 (k + 1) y0 y1 y2 y3 y4 y5 y6)) ∧ (∀ y0 y1 y2 y3 y4 y5, LeO (er_values.j3 k y0 y1 y2 y3 y4 y5) (er_values.j3 (k + 1) y0 y1 y2 y3 y4 y5)) ∧ (∀ y0 y1 y2 y3, LeO (er_values.j4 k y0 y1 y2 y3) (er_values.j4 (k + 1) y0 y1 y2 y3)) ∧ (∀ y0 y1 y2 y3 y4 y5, LeO (er_values.l1 k y0 y1 y2 y3 y4 y5) (er_values.l1 (k + 1) y0 y1 y2 y3 y4 y5))
 | 0 => ⟨fun _ _ _ _ _ _ _ r h => by simp [er_values.j0] at h, fun _ _ _ _ _ _ r h => by simp [er_values.l0] at h, fun _ _ _ _ _ _ _ r h => by simp [er_values.j2] at h, fun _ _ _ _ _ _ r h => by simp [er_values.j3] at h, fun _ _ _ _ r h => by simp [er_values.j4] at h, fun _ _ _ _ _ _ r h => by simp [er_values.l1] at h⟩
 | k + 1 => by
  obtain ⟨ih0, ih1, ih2, ih3, ih4, ih5⟩ := er_values.mono_l k
  refine ⟨?_, ?_, ?_, ?_, ?_, ?_⟩ <;> intros
  all_goals (first | unfold er_values.j0 | unfold er_values.l0 | unfold er_values.j2 | unfold er_values.j3 | unfold er_values.j4 | unfold er_values.l1)
  all_goals
   repeat' first
   | (with_reducible exact ih1 _ _ _ _ _ _)
   | (with_reducible exact ih2 _ _ _ _ _ _ _)
   | (with_reducible exact ih3 _ _ _ _ _ _)
   | (with_reducible exact ih4 _ _ _ _)
   | (with_reducible exact ih5 _ _ _ _ _ _)
   | (with_reducible exact er_dict.mono _ _ _ _)
   | (with_reducible exact er_number.mono _ _ _)
   | (with_reducible exact er_packed.mono _ _ _ _ _)
   | (with_reducible exact er_runs.mono _ _ _ _)
   | (with_reducible exact LeO.refl _)
   | (with_reducible refine LeO.ite ?_ ?_)
   | (with_reducible refine LeO.bind ?_ (fun _ => ?_))
theorem er_values.mono : ∀ a0 a1 a2 a3 k, LeO (er_values.f k a0 a1 a2 a3) (er_values.f (k + 1) a0 a1 a2 a3) := by
 intro a0 a1 a2 a3 k
 obtain ⟨ih0, ih1, ih2, ih3, ih4, ih5⟩ := er_values.mono_l k
 unfold er_values.f
 repeat' first
  | (with_reducible exact ih0 _ _ _ _ _ _ _)
  | (with_reducible refine LeO.ite ?_ ?_)
set_option maxHeartbeats 8000000 in
set_option maxRecDepth 100000 in
theorem er_values.calls (k : Nat) (g : Nat) (s0_0 : List Int) (s0_1 : Bool) (a1 : Int) (a2 : Int) (r1 : List Int) (r2 : List Int) (r3 : Bool) (w0 w : World) (hI : IsS71 w0 w g s0_0 s0_1) (hB : Below w0.heap.size w0 w) (h : er_values.f k s0_0 s0_1 a1 a2 = some (r1, r2, r3)) :
 Calls Try.prog 80 #[.pointer (some ⟨g, 0, none⟩), .int .i64 a1, .int .i64 a2] w fun e w' => ∃ v0_ : Value, e = .returned (v0_) ∧ Kd.R (Kd.int .i64) 3 w' w.heap.size (fun _ => True) v0_ r1 ∧ IsS71 w0 w' g r2 r3 ∧ Below w0.heap.size w0 w' ∧ KeepBut w w' g none := by
 have HI0 := Ak hI
 have HK := Ak (KeepBut.refl w g none)
 have HL := Ak hB.size
 clear hI
 have HW0 := Ak hB.size
 have HB := Ak hB
 have HBZ := Ak hB
 clear hB
 have H : (if a1 = 1 then (er_values.j0 k a1 a2 ([] : List Int) a1 (a1 == 1) s0_0 s0_1) else (er_values.j0 k a1 a2 ([] : List Int) a1 (a1 == 5) s0_0 s0_1)) = some (r1, r2, r3) := h
 clear h
 have HC4 := Ak H
 clear H
 go_enter Try.func80, Try.ntmps80
 go_upto_if 17 with (fail)
 go_cut [17] (fun v17 wc => ∃ (kq : Nat) (x17_3 : Bool), v17 = .bool x17_3 ∧ Aside0 (er_values.j0 kq a1 a2 ([] : List Int) a1 x17_3 s0_0 s0_1 = some (r1, r2, r3)) ∧ Aside0 (kq ≤ k) ∧ Aside0 (Kd.R (Kd.int .i64) 3 wc w.heap.size (fun _ => True) (.slice none 0 0) ([] : List Int)) ∧ Aside0 (IsS71 w0 wc g s0_0 s0_1) ∧ Aside0 (KeepBut w wc g none) ∧ Aside0 (Below w0.heap.size w0 wc))
 case first =>
  have H := HC4.out
  clear HC4
  by_cases c5 : a1 = 1
  ·rw [if_pos c5] at H
   have c5b0 : (a1 == 1) = true := beq_iff_eq.mpr c5
   have c5b1 : (a1 != 1) = false := bne_eq_false_iff_eq.mpr c5
   clear c5
   (rw [c5b0])
   (try rw [c5b1])
   have H' := Ak H
   clear H
   go_wp2
   go_meet
   case rel => exact ⟨_, ((a1 == 1)), (by (simp [*]; done)), H', ⟨by omega⟩, ⟨by exact Kd.R_nil _ _ _ _ _⟩, ⟨by exact HI0.out⟩, ⟨by exact HK.out⟩, ⟨by exact HB.out⟩⟩
  ·rw [if_neg c5] at H
   have c5b0 : (a1 == 1) = false := beq_eq_false_iff_ne.mpr c5
   have c5b1 : (a1 != 1) = true := bne_iff_ne.mpr c5
   (rw [c5b0])
   (try rw [c5b1])
   have H' := Ak H
   clear H
   go_wp2
   go_meet
   case rel => exact ⟨_, ((a1 == 5)), (by rfl), H', ⟨by omega⟩, ⟨by exact Kd.R_nil _ _ _ _ _⟩, ⟨by exact HI0.out⟩, ⟨by exact HK.out⟩, ⟨by exact HB.out⟩⟩
 case rest =>
  clear HC4
  obtain ⟨kq, x17_3, rfl, HA, HJ3, HO_7, HI0, HK, HB⟩ := hcut
  cases kq with
  | zero => exact absurd HA.out (by simp [er_values.j0])
  | succ kj3 =>
   have H := HA.out
   clear HA
   simp only [er_values.j0] at H
   by_cases c6 : x17_3 = true
   ·subst c6
    replace H : (er_values.l0 kj3 a1 a2 ([] : List Int) 0 s0_0 s0_1) = some (r1, r2, r3) := by rw [if_pos rfl] at H; exact H
    have H' := Ak H
    clear H
    go_wp2
    go_loopg [7, 8] kj3 (fun kq v7 v8 w' => ∃ (x7_2 : List Int) (x8_2 : Int) (x1000_2 : List Int) (x1001_2 : Bool), v8 = .int .i64 x8_2 ∧ Aside0 (er_values.l0 kq a1 a2 x7_2 x8_2 x1000_2 x1001_2 = some (r1, r2, r3)) ∧ Aside0 (kq ≤ kj3) ∧ Aside0 (Kd.R (Kd.int .i64) 3 w' w.heap.size (fun _ => True) v7 x7_2) ∧ Aside0 (IsS71 w0 w' g x1000_2 x1001_2) ∧ Aside0 (KeepBut w w' g none) ∧ Aside0 (Below w0.heap.size w0 w'))
    case atStart => exact ⟨(([] : List Int)), (0), (s0_0), (s0_1), (by rfl), H', ⟨Nat.le_refl _⟩, ⟨by exact HO_7.out⟩, ⟨by exact HI0.out⟩, ⟨by exact HK.out⟩, ⟨by exact HB.out⟩⟩
    case round =>
     clear H'
     obtain ⟨x7_2, x8_2, x1000_2, x1001_2, rfl, HA, HK2, HO_7, HI0, HK, HB⟩ := hrel
     cases gk with
     | zero => exact absurd HA.out (by simp [er_values.l0])
     | succ k2 =>
      have H := HA.out
      clear HA
      simp only [er_values.l0] at H
      have HC7 := Ak H
      clear H
      go_upto_region 7 with (fail)
      go_cut [30] (fun v30 wc => ∃ (kq : Nat) (x30_6 : Bool), v30 = .bool x30_6 ∧ Aside0 (er_values.j2 kq a1 a2 x7_2 x8_2 x30_6 x1000_2 x1001_2 = some (r1, r2, r3)) ∧ Aside0 (kq ≤ k2) ∧ Aside0 (Kd.R (Kd.int .i64) 3 wc w.heap.size (fun _ => True) u7 x7_2) ∧ Aside0 (IsS71 w0 wc g x1000_2 x1001_2) ∧ Aside0 (KeepBut w wc g none) ∧ Aside0 (Below w0.heap.size w0 wc))
      case first =>
       have H := HC7.out
       clear HC7
       by_cases c8 : (x7_2.length : Int) < a2
       ·rw [if_pos c8] at H
        have c8b0 : decide ((x7_2.length : Int) < a2) = true := decide_eq_true c8
        clear c8
        (skip)
        (try rw [c8b1])
        have H' := Ak H
        clear H
        obtain ⟨Ao9, co9, eo9⟩ := Kd.R_slice HO_7.out
        subst eo9
        obtain ⟨ASz10_0, cSz10_0, HGz10, hgz10, HSz10_0⟩ := HI0.out
        have hcz10_0 := cellS71_0 HGz10
        have hcz10_1 := cellS71_1 HGz10
        have hfz10_0 := blk_frozen HGz10 0
        have hfz10_1 := blk_frozen HGz10 1
        have HCSz10_0 := HSz10_0.1
        replace HSz10_0 := HSz10_0.2
        clear HGz10 hgz10
        go_wp2
        go_meet
        case rel => exact ⟨_, (!x1001_2), (by rfl), H', ⟨by have := HJ3.out; have := HK2.out; omega⟩, ⟨by exact HO_7.out⟩, ⟨by exact HI0.out⟩, ⟨by exact HK.out⟩, ⟨by exact HB.out⟩⟩
       ·rw [if_neg c8] at H
        have c8b0 : decide ((x7_2.length : Int) < a2) = false := decide_eq_false c8
        clear c8
        (skip)
        (try rw [c8b1])
        have H' := Ak H
        clear H
        obtain ⟨Ao11, co11, eo11⟩ := Kd.R_slice HO_7.out
        subst eo11
        go_wp2
        go_meet
        case rel => exact ⟨_, (false), (by rfl), H', ⟨by have := HJ3.out; have := HK2.out; omega⟩, ⟨by exact HO_7.out⟩, ⟨by exact HI0.out⟩, ⟨by exact HK.out⟩, ⟨by exact HB.out⟩⟩
      case rest =>
       clear HC7
       obtain ⟨kq, x30_6, rfl, HA, HJ6, HO_7, HI0, HK, HB⟩ := hcut
       cases kq with
       | zero => exact absurd HA.out (by simp [er_values.j2])
       | succ kj6 =>
        have H := HA.out
        clear HA
        simp only [er_values.j2] at H
        by_cases c12 : x30_6 = true
        ·subst c12
         replace H : ((er_number.f kj6 x1000_2 x1001_2).bind fun bt283 => (if a1 = 5 then ((kit_In.f (wrap64 (bt283.1 + x8_2)) (-1000000000000000) 1000000000000000).bind fun t286 => (if t286 = true then (if x7_2.length < 17592186044416 then (er_values.l0 kj6 a1 a2 (x7_2 ++ [wrap64 (bt283.1 + x8_2)]) (wrap64 (bt283.1 + x8_2)) bt283.2.1 bt283.2.2) else (none)) else (if x7_2.length < 17592186044416 then (er_values.l0 kj6 a1 a2 (x7_2 ++ [wrap64 (bt283.1 + x8_2)]) (wrap64 (bt283.1 + x8_2)) bt283.2.1 true) else (none)))) else ((kit_In.f bt283.1 (-1000000000000000) 1000000000000000).bind fun t293 => (if t293 = true then (if x7_2.length < 17592186044416 then (er_values.l0 kj6 a1 a2 (x7_2 ++ [bt283.1]) bt283.1 bt283.2.1 bt283.2.2) else (none)) else (if x7_2.length < 17592186044416 then (er_values.l0 kj6 a1 a2 (x7_2 ++ [bt283.1]) bt283.1 bt283.2.1 true) else (none)))))) = some (r1, r2, r3) := by rw [if_pos rfl] at H; exact H
         replace H := Option.bind_eq_some_iff.mp H
         obtain ⟨⟨t283, t284, t285⟩, A130, H⟩ := H
         replace H : (if a1 = 5 then ((kit_In.f (wrap64 (t283 + x8_2)) (-1000000000000000) 1000000000000000).bind fun t286 => (if t286 = true then (if x7_2.length < 17592186044416 then (er_values.l0 kj6 a1 a2 (x7_2 ++ [wrap64 (t283 + x8_2)]) (wrap64 (t283 + x8_2)) t284 t285) else (none)) else (if x7_2.length < 17592186044416 then (er_values.l0 kj6 a1 a2 (x7_2 ++ [wrap64 (t283 + x8_2)]) (wrap64 (t283 + x8_2)) t284 true) else (none)))) else ((kit_In.f t283 (-1000000000000000) 1000000000000000).bind fun t293 => (if t293 = true then (if x7_2.length < 17592186044416 then (er_values.l0 kj6 a1 a2 (x7_2 ++ [t283]) t283 t284 t285) else (none)) else (if x7_2.length < 17592186044416 then (er_values.l0 kj6 a1 a2 (x7_2 ++ [t283]) t283 t284 true) else (none))))) = some (r1, r2, r3) := H
         have A13 := Ak A130
         clear A130
         by_cases c14 : a1 = 5
         ·rw [if_pos c14] at H
          have c14b0 : (a1 == 5) = true := beq_iff_eq.mpr c14
          have c14b1 : (a1 != 5) = false := bne_eq_false_iff_eq.mpr c14
          clear c14
          replace H := Option.bind_eq_some_iff.mp H
          obtain ⟨t286, A150, H⟩ := H
          replace H : (if t286 = true then (if x7_2.length < 17592186044416 then (er_values.l0 kj6 a1 a2 (x7_2 ++ [wrap64 (t283 + x8_2)]) (wrap64 (t283 + x8_2)) t284 t285) else (none)) else (if x7_2.length < 17592186044416 then (er_values.l0 kj6 a1 a2 (x7_2 ++ [wrap64 (t283 + x8_2)]) (wrap64 (t283 + x8_2)) t284 true) else (none))) = some (r1, r2, r3) := H
          have A15 := Ak A150
          clear A150
          by_cases c16 : t286 = true
          ·subst c16
           replace H : (if x7_2.length < 17592186044416 then (er_values.l0 kj6 a1 a2 (x7_2 ++ [wrap64 (t283 + x8_2)]) (wrap64 (t283 + x8_2)) t284 t285) else (none)) = some (r1, r2, r3) := by rw [if_pos rfl] at H; exact H
           by_cases c17 : x7_2.length < 17592186044416
           ·rw [if_pos c17] at H
            have LMc17 := Ak c17
            clear c17
            obtain ⟨y287, hy287⟩ : ∃ y_ : List Int, y_ = (x7_2 ++ [wrap64 (t283 + x8_2)]) := ⟨_, rfl⟩
            replace H : (er_values.l0 kj6 a1 a2 y287 (wrap64 (t283 + x8_2)) t284 t285) = some (r1, r2, r3) := by (rw [hy287]; with_reducible exact H)
            have Ny287 := Ak hy287
            clear hy287
            have H' := Ak H
            clear H
            go_wp2_with (first | ((with_reducible refine gate_callee (f := 111) rfl ?_); refine goesL_ (some 32) rfl rfl Try.func111 (by kernel_rfl) rfl #[.pointer (some ⟨g, 0, none⟩)] rfl (by (try simp only [lm]); rfl) ?_; (with_reducible refine (er_number.calls kj6 g x1000_2 x1001_2 t283 t284 t285 w0 _ ?side1 ?side2 A13.out).mono ?_); (case side1 => exact HI0.out); (case side2 => exact HB.out); rintro e w18 ⟨rfl, hi, hb, hk⟩; refine ⟨_, rfl, ?_⟩; have n0_ := Ak (Kd.R_mono (Kd.R_keep (IsS71.apart (show IsS71 w0 _ g x1000_2 x1001_2 from by exact HI0.out) (by exact HO_7.out) (by decide)) hk (fun _ h => h.2)) (fun _ h => h.1)); have n1_ := Ak (KeepBut.trans (by exact HK.out) hk (.inl rfl)); have n2_ := Ak (hb); have n3_ := Ak (hi); clear HO_7 HK HB HI0; have HO_7 := n0_; have HK := n1_; have HB := n2_; have HI0 := n3_; clear n0_ n1_ n2_ n3_; (try clear hb); (try clear hk); (try clear hi)) | ((with_reducible refine gate_callee (f := 52) rfl ?_); refine goesL_ (some 40) rfl rfl Try.func52 (by kernel_rfl) rfl #[.int .i64 (wrap64 (t283 + x8_2)), .int .i64 (-1000000000000000), .int .i64 1000000000000000] rfl (by (try simp only [lm]); rfl) ?_; (with_reducible refine (kit_In.calls (wrap64 (t283 + x8_2)) (-1000000000000000) 1000000000000000 true _ A15.out).mono ?_); rintro e w' ⟨rfl, ⟨nd, rfl⟩⟩; refine ⟨_, rfl, ?_⟩) | ((with_reducible refine gate_builtin (b := .append) (xs := #[.tmp 45, .tmp 47]) rfl ?_); at_builtin; refine Kd.R_append (Kd.int .i64) w.heap.size rfl (.tmp 45) (.tmp 47) 22 3 (.int .i64 0) 8 rfl Try.underlying22 info3 rfl (by decide) (by omega) u7 x7_2 (wrap64 (t283 + x8_2)) [.int .i64 (wrap64 (t283 + x8_2))] (fun _ => True) (fun _ => False) rfl rfl ?aP (fun _ hk => hk.elim) ?aF ?aO (Below.refl _ _) ?aS ?aL ?_; (case aP => exact rfl); (case aF => exact (fun _ _ => trivial)); (case aO => exact (by (with_reducible repeat (apply Kd.R_drewN)); exact HO_7.out)); (case aS => exact (keep_size (w := w) (g := g) (row := none) (by repeat ((with_reducible first | exact HK.out | apply keep_drewN ))))); (case aL => have := LMc17.out; omega); intro v288 w19 ho hb hg hat; rw [← Ny287.out] at ho; have n0_ := Ak (IsS71.grown (by repeat ((with_reducible first | exact HI0.out | apply IsS71.drewN ))) hg (IsS71.own_ne HI0.out HO_7.out (by decide))); have n1_ := Ak (below_weaken (by repeat ((with_reducible first | exact HB.out | apply pw_below_drewN ))) HL.out hb); have n2_ := Ak (KeepBut.trans (by repeat ((with_reducible first | exact HK.out | apply keep_drewN ))) (KeepBut.of_grown hg g) (Kd.R_base2 HO_7.out)); have n3_ := Ak (ho); clear HI0 HB HK HO_7; have HI0 := n0_; have HB := n1_; have HK := n2_; have HO289 := n3_; clear n0_ n1_ n2_ n3_ ho hb hg hat))
            go_roundg kj6
            case measure => have := HJ3.out; have := HK2.out; have := HJ6.out; omega
            case rel => exact ⟨(y287), (wrap64 (t283 + x8_2)), (t284), (t285), (by rfl), H', ⟨by have := HJ3.out; have := HK2.out; have := HJ6.out; omega⟩, ⟨by exact HO289.out⟩, ⟨by exact HI0.out⟩, ⟨by exact HK.out⟩, ⟨by exact HB.out⟩⟩
           ·rw [if_neg c17] at H
            exact absurd H (by simp)
          ·replace c16 := Bool.eq_false_iff.mpr c16
           subst c16
           replace H : (if x7_2.length < 17592186044416 then (er_values.l0 kj6 a1 a2 (x7_2 ++ [wrap64 (t283 + x8_2)]) (wrap64 (t283 + x8_2)) t284 true) else (none)) = some (r1, r2, r3) := by rw [if_neg (show ¬ (false = true) by decide)] at H; exact H
           by_cases c20 : x7_2.length < 17592186044416
           ·rw [if_pos c20] at H
            have LMc20 := Ak c20
            clear c20
            obtain ⟨y290, hy290⟩ : ∃ y_ : List Int, y_ = (x7_2 ++ [wrap64 (t283 + x8_2)]) := ⟨_, rfl⟩
            replace H : (er_values.l0 kj6 a1 a2 y290 (wrap64 (t283 + x8_2)) t284 true) = some (r1, r2, r3) := by (rw [hy290]; with_reducible exact H)
            have Ny290 := Ak hy290
            clear hy290
            have H' := Ak H
            clear H
            go_wp2_with (first | ((with_reducible refine gate_callee (f := 111) rfl ?_); refine goesL_ (some 32) rfl rfl Try.func111 (by kernel_rfl) rfl #[.pointer (some ⟨g, 0, none⟩)] rfl (by (try simp only [lm]); rfl) ?_; (with_reducible refine (er_number.calls kj6 g x1000_2 x1001_2 t283 t284 t285 w0 _ ?side1 ?side2 A13.out).mono ?_); (case side1 => exact HI0.out); (case side2 => exact HB.out); rintro e w21 ⟨rfl, hi, hb, hk⟩; refine ⟨_, rfl, ?_⟩; have n0_ := Ak (Kd.R_mono (Kd.R_keep (IsS71.apart (show IsS71 w0 _ g x1000_2 x1001_2 from by exact HI0.out) (by exact HO_7.out) (by decide)) hk (fun _ h => h.2)) (fun _ h => h.1)); have n1_ := Ak (KeepBut.trans (by exact HK.out) hk (.inl rfl)); have n2_ := Ak (hb); have n3_ := Ak (hi); clear HO_7 HK HB HI0; have HO_7 := n0_; have HK := n1_; have HB := n2_; have HI0 := n3_; clear n0_ n1_ n2_ n3_; (try clear hb); (try clear hk); (try clear hi)) | ((with_reducible refine gate_callee (f := 52) rfl ?_); refine goesL_ (some 40) rfl rfl Try.func52 (by kernel_rfl) rfl #[.int .i64 (wrap64 (t283 + x8_2)), .int .i64 (-1000000000000000), .int .i64 1000000000000000] rfl (by (try simp only [lm]); rfl) ?_; (with_reducible refine (kit_In.calls (wrap64 (t283 + x8_2)) (-1000000000000000) 1000000000000000 false _ A15.out).mono ?_); rintro e w' ⟨rfl, ⟨nd, rfl⟩⟩; refine ⟨_, rfl, ?_⟩; (try (rw [drewN_self w21]; generalize hq_ : World.drewN w21 _ = w21; have n0_ : Aside0 (Kd.R (Kd.int .i64) 3 w21 w.heap.size (fun _ => True) u7 x7_2) := ⟨by rw [← hq_]; exact (by (with_reducible repeat (apply Kd.R_drewN)); exact HO_7.out)⟩; have n1_ : Aside0 (IsS71 w0 w21 g t284 t285) := ⟨by rw [← hq_]; exact (by repeat ((with_reducible first | exact HI0.out | apply IsS71.drewN )))⟩; have n2_ : Aside0 (KeepBut w w21 g none) := ⟨by rw [← hq_]; exact (by repeat ((with_reducible first | exact HK.out | apply keep_drewN )))⟩; have n3_ : Aside0 (Below w0.heap.size w0 w21) := ⟨by rw [← hq_]; exact (by repeat ((with_reducible first | exact HB.out | apply pw_below_drewN )))⟩; clear HO_7 HI0 HK HB hq_; have HO_7 := n0_; have HI0 := n1_; have HK := n2_; have HB := n3_; clear n0_ n1_ n2_ n3_)); obtain ⟨ASz22_0, cSz22_0, HGz22, hgz22, HSz22_0⟩ := HI0.out; have hcz22_0 := cellS71_0 HGz22; have hcz22_1 := cellS71_1 HGz22; have hfz22_0 := blk_frozen HGz22 0; have hfz22_1 := blk_frozen HGz22 1; have HCSz22_0 := HSz22_0.1; replace HSz22_0 := HSz22_0.2; clear HGz22 hgz22) | ((with_reducible refine gate_builtin (b := .append) (xs := #[.tmp 45, .tmp 47]) rfl ?_); at_builtin; refine Kd.R_append (Kd.int .i64) w.heap.size rfl (.tmp 45) (.tmp 47) 22 3 (.int .i64 0) 8 rfl Try.underlying22 info3 rfl (by decide) (by omega) u7 x7_2 (wrap64 (t283 + x8_2)) [.int .i64 (wrap64 (t283 + x8_2))] (fun _ => True) (fun _ => False) rfl (by (go_simp; done)) ?aP (fun _ hk => hk.elim) ?aF ?aO (Below.refl _ _) ?aS ?aL ?_; (case aP => exact rfl); (case aF => exact (fun _ _ => trivial)); (case aO => exact (by exact Kd.R_mono (Kd.R_far (p := ⟨g, 1, none⟩) (IsS71.apart HI0.out HO_7.out (by decide)) (fun _ hk => hk.2) (.bool true)) (fun _ hk => trivial))); (case aS => exact (keep_size (w := w) (g := g) (row := none) (by repeat ((with_reducible first | exact HK.out | apply KeepBut.set_ ))))); (case aL => have := LMc20.out; omega); intro v291 w23 ho hb hg hat; rw [← Ny290.out] at ho; have n0_ := Ak (IsS71.grown (by repeat ((with_reducible first | exact HI0.out | apply IsS71.set_1))) hg (IsS71.own_ne HI0.out HO_7.out (by decide))); have n1_ := Ak (below_weaken (by repeat ((with_reducible first | exact HB.out | refine below_set ?_ (IsS71.ge HI0.out)))) HL.out hb); have n2_ := Ak (KeepBut.trans (by repeat ((with_reducible first | exact HK.out | apply KeepBut.set_ ))) (KeepBut.of_grown hg g) (Kd.R_base2 HO_7.out)); have n3_ := Ak (ho); clear HI0 HB HK HO_7; have HI0 := n0_; have HB := n1_; have HK := n2_; have HO292 := n3_; clear n0_ n1_ n2_ n3_ ho hb hg hat))
            go_roundg kj6
            case measure => have := HJ3.out; have := HK2.out; have := HJ6.out; omega
            case rel => exact ⟨(y290), (wrap64 (t283 + x8_2)), (t284), (true), (by rfl), H', ⟨by have := HJ3.out; have := HK2.out; have := HJ6.out; omega⟩, ⟨by exact HO292.out⟩, ⟨by exact HI0.out⟩, ⟨by exact HK.out⟩, ⟨by exact HB.out⟩⟩
           ·rw [if_neg c20] at H
            exact absurd H (by simp)
         ·rw [if_neg c14] at H
          have c14b0 : (a1 == 5) = false := beq_eq_false_iff_ne.mpr c14
          have c14b1 : (a1 != 5) = true := bne_iff_ne.mpr c14
          replace H := Option.bind_eq_some_iff.mp H
          obtain ⟨t293, A240, H⟩ := H
          replace H : (if t293 = true then (if x7_2.length < 17592186044416 then (er_values.l0 kj6 a1 a2 (x7_2 ++ [t283]) t283 t284 t285) else (none)) else (if x7_2.length < 17592186044416 then (er_values.l0 kj6 a1 a2 (x7_2 ++ [t283]) t283 t284 true) else (none))) = some (r1, r2, r3) := H
          have A24 := Ak A240
          clear A240
          by_cases c25 : t293 = true
          ·subst c25
           replace H : (if x7_2.length < 17592186044416 then (er_values.l0 kj6 a1 a2 (x7_2 ++ [t283]) t283 t284 t285) else (none)) = some (r1, r2, r3) := by rw [if_pos rfl] at H; exact H
           by_cases c26 : x7_2.length < 17592186044416
           ·rw [if_pos c26] at H
            have LMc26 := Ak c26
            clear c26
            obtain ⟨y294, hy294⟩ : ∃ y_ : List Int, y_ = (x7_2 ++ [t283]) := ⟨_, rfl⟩
            replace H : (er_values.l0 kj6 a1 a2 y294 t283 t284 t285) = some (r1, r2, r3) := by (rw [hy294]; with_reducible exact H)
            have Ny294 := Ak hy294
            clear hy294
            have H' := Ak H
            clear H
            go_wp2_with (first | ((with_reducible refine gate_callee (f := 111) rfl ?_); refine goesL_ (some 32) rfl rfl Try.func111 (by kernel_rfl) rfl #[.pointer (some ⟨g, 0, none⟩)] rfl (by (try simp only [lm]); rfl) ?_; (with_reducible refine (er_number.calls kj6 g x1000_2 x1001_2 t283 t284 t285 w0 _ ?side1 ?side2 A13.out).mono ?_); (case side1 => exact HI0.out); (case side2 => exact HB.out); rintro e w27 ⟨rfl, hi, hb, hk⟩; refine ⟨_, rfl, ?_⟩; have n0_ := Ak (Kd.R_mono (Kd.R_keep (IsS71.apart (show IsS71 w0 _ g x1000_2 x1001_2 from by exact HI0.out) (by exact HO_7.out) (by decide)) hk (fun _ h => h.2)) (fun _ h => h.1)); have n1_ := Ak (KeepBut.trans (by exact HK.out) hk (.inl rfl)); have n2_ := Ak (hb); have n3_ := Ak (hi); clear HO_7 HK HB HI0; have HO_7 := n0_; have HK := n1_; have HB := n2_; have HI0 := n3_; clear n0_ n1_ n2_ n3_; (try clear hb); (try clear hk); (try clear hi)) | ((with_reducible refine gate_callee (f := 52) rfl ?_); refine goesL_ (some 40) rfl rfl Try.func52 (by kernel_rfl) rfl #[.int .i64 t283, .int .i64 (-1000000000000000), .int .i64 1000000000000000] rfl (by (try simp only [lm]); rfl) ?_; (with_reducible refine (kit_In.calls t283 (-1000000000000000) 1000000000000000 true _ A24.out).mono ?_); rintro e w' ⟨rfl, ⟨nd, rfl⟩⟩; refine ⟨_, rfl, ?_⟩) | ((with_reducible refine gate_builtin (b := .append) (xs := #[.tmp 45, .tmp 47]) rfl ?_); at_builtin; refine Kd.R_append (Kd.int .i64) w.heap.size rfl (.tmp 45) (.tmp 47) 22 3 (.int .i64 0) 8 rfl Try.underlying22 info3 rfl (by decide) (by omega) u7 x7_2 t283 [.int .i64 t283] (fun _ => True) (fun _ => False) rfl rfl ?aP (fun _ hk => hk.elim) ?aF ?aO (Below.refl _ _) ?aS ?aL ?_; (case aP => exact rfl); (case aF => exact (fun _ _ => trivial)); (case aO => exact (by (with_reducible repeat (apply Kd.R_drewN)); exact HO_7.out)); (case aS => exact (keep_size (w := w) (g := g) (row := none) (by repeat ((with_reducible first | exact HK.out | apply keep_drewN ))))); (case aL => have := LMc26.out; omega); intro v295 w28 ho hb hg hat; rw [← Ny294.out] at ho; have n0_ := Ak (IsS71.grown (by repeat ((with_reducible first | exact HI0.out | apply IsS71.drewN ))) hg (IsS71.own_ne HI0.out HO_7.out (by decide))); have n1_ := Ak (below_weaken (by repeat ((with_reducible first | exact HB.out | apply pw_below_drewN ))) HL.out hb); have n2_ := Ak (KeepBut.trans (by repeat ((with_reducible first | exact HK.out | apply keep_drewN ))) (KeepBut.of_grown hg g) (Kd.R_base2 HO_7.out)); have n3_ := Ak (ho); clear HI0 HB HK HO_7; have HI0 := n0_; have HB := n1_; have HK := n2_; have HO296 := n3_; clear n0_ n1_ n2_ n3_ ho hb hg hat))
            go_roundg kj6
            case measure => have := HJ3.out; have := HK2.out; have := HJ6.out; omega
            case rel => exact ⟨(y294), (t283), (t284), (t285), (by rfl), H', ⟨by have := HJ3.out; have := HK2.out; have := HJ6.out; omega⟩, ⟨by exact HO296.out⟩, ⟨by exact HI0.out⟩, ⟨by exact HK.out⟩, ⟨by exact HB.out⟩⟩
           ·rw [if_neg c26] at H
            exact absurd H (by simp)
          ·replace c25 := Bool.eq_false_iff.mpr c25
           subst c25
           replace H : (if x7_2.length < 17592186044416 then (er_values.l0 kj6 a1 a2 (x7_2 ++ [t283]) t283 t284 true) else (none)) = some (r1, r2, r3) := by rw [if_neg (show ¬ (false = true) by decide)] at H; exact H
           by_cases c29 : x7_2.length < 17592186044416
           ·rw [if_pos c29] at H
            have LMc29 := Ak c29
            clear c29
            obtain ⟨y297, hy297⟩ : ∃ y_ : List Int, y_ = (x7_2 ++ [t283]) := ⟨_, rfl⟩
            replace H : (er_values.l0 kj6 a1 a2 y297 t283 t284 true) = some (r1, r2, r3) := by (rw [hy297]; with_reducible exact H)
            have Ny297 := Ak hy297
            clear hy297
            have H' := Ak H
            clear H
            go_wp2_with (first | ((with_reducible refine gate_callee (f := 111) rfl ?_); refine goesL_ (some 32) rfl rfl Try.func111 (by kernel_rfl) rfl #[.pointer (some ⟨g, 0, none⟩)] rfl (by (try simp only [lm]); rfl) ?_; (with_reducible refine (er_number.calls kj6 g x1000_2 x1001_2 t283 t284 t285 w0 _ ?side1 ?side2 A13.out).mono ?_); (case side1 => exact HI0.out); (case side2 => exact HB.out); rintro e w30 ⟨rfl, hi, hb, hk⟩; refine ⟨_, rfl, ?_⟩; have n0_ := Ak (Kd.R_mono (Kd.R_keep (IsS71.apart (show IsS71 w0 _ g x1000_2 x1001_2 from by exact HI0.out) (by exact HO_7.out) (by decide)) hk (fun _ h => h.2)) (fun _ h => h.1)); have n1_ := Ak (KeepBut.trans (by exact HK.out) hk (.inl rfl)); have n2_ := Ak (hb); have n3_ := Ak (hi); clear HO_7 HK HB HI0; have HO_7 := n0_; have HK := n1_; have HB := n2_; have HI0 := n3_; clear n0_ n1_ n2_ n3_; (try clear hb); (try clear hk); (try clear hi)) | ((with_reducible refine gate_callee (f := 52) rfl ?_); refine goesL_ (some 40) rfl rfl Try.func52 (by kernel_rfl) rfl #[.int .i64 t283, .int .i64 (-1000000000000000), .int .i64 1000000000000000] rfl (by (try simp only [lm]); rfl) ?_; (with_reducible refine (kit_In.calls t283 (-1000000000000000) 1000000000000000 false _ A24.out).mono ?_); rintro e w' ⟨rfl, ⟨nd, rfl⟩⟩; refine ⟨_, rfl, ?_⟩; (try (rw [drewN_self w30]; generalize hq_ : World.drewN w30 _ = w30; have n0_ : Aside0 (Kd.R (Kd.int .i64) 3 w30 w.heap.size (fun _ => True) u7 x7_2) := ⟨by rw [← hq_]; exact (by (with_reducible repeat (apply Kd.R_drewN)); exact HO_7.out)⟩; have n1_ : Aside0 (IsS71 w0 w30 g t284 t285) := ⟨by rw [← hq_]; exact (by repeat ((with_reducible first | exact HI0.out | apply IsS71.drewN )))⟩; have n2_ : Aside0 (KeepBut w w30 g none) := ⟨by rw [← hq_]; exact (by repeat ((with_reducible first | exact HK.out | apply keep_drewN )))⟩; have n3_ : Aside0 (Below w0.heap.size w0 w30) := ⟨by rw [← hq_]; exact (by repeat ((with_reducible first | exact HB.out | apply pw_below_drewN )))⟩; clear HO_7 HI0 HK HB hq_; have HO_7 := n0_; have HI0 := n1_; have HK := n2_; have HB := n3_; clear n0_ n1_ n2_ n3_)); obtain ⟨ASz31_0, cSz31_0, HGz31, hgz31, HSz31_0⟩ := HI0.out; have hcz31_0 := cellS71_0 HGz31; have hcz31_1 := cellS71_1 HGz31; have hfz31_0 := blk_frozen HGz31 0; have hfz31_1 := blk_frozen HGz31 1; have HCSz31_0 := HSz31_0.1; replace HSz31_0 := HSz31_0.2; clear HGz31 hgz31) | ((with_reducible refine gate_builtin (b := .append) (xs := #[.tmp 45, .tmp 47]) rfl ?_); at_builtin; refine Kd.R_append (Kd.int .i64) w.heap.size rfl (.tmp 45) (.tmp 47) 22 3 (.int .i64 0) 8 rfl Try.underlying22 info3 rfl (by decide) (by omega) u7 x7_2 t283 [.int .i64 t283] (fun _ => True) (fun _ => False) rfl (by (go_simp; done)) ?aP (fun _ hk => hk.elim) ?aF ?aO (Below.refl _ _) ?aS ?aL ?_; (case aP => exact rfl); (case aF => exact (fun _ _ => trivial)); (case aO => exact (by exact Kd.R_mono (Kd.R_far (p := ⟨g, 1, none⟩) (IsS71.apart HI0.out HO_7.out (by decide)) (fun _ hk => hk.2) (.bool true)) (fun _ hk => trivial))); (case aS => exact (keep_size (w := w) (g := g) (row := none) (by repeat ((with_reducible first | exact HK.out | apply KeepBut.set_ ))))); (case aL => have := LMc29.out; omega); intro v298 w32 ho hb hg hat; rw [← Ny297.out] at ho; have n0_ := Ak (IsS71.grown (by repeat ((with_reducible first | exact HI0.out | apply IsS71.set_1))) hg (IsS71.own_ne HI0.out HO_7.out (by decide))); have n1_ := Ak (below_weaken (by repeat ((with_reducible first | exact HB.out | refine below_set ?_ (IsS71.ge HI0.out)))) HL.out hb); have n2_ := Ak (KeepBut.trans (by repeat ((with_reducible first | exact HK.out | apply KeepBut.set_ ))) (KeepBut.of_grown hg g) (Kd.R_base2 HO_7.out)); have n3_ := Ak (ho); clear HI0 HB HK HO_7; have HI0 := n0_; have HB := n1_; have HK := n2_; have HO299 := n3_; clear n0_ n1_ n2_ n3_ ho hb hg hat))
            go_roundg kj6
            case measure => have := HJ3.out; have := HK2.out; have := HJ6.out; omega
            case rel => exact ⟨(y297), (t283), (t284), (true), (by rfl), H', ⟨by have := HJ3.out; have := HK2.out; have := HJ6.out; omega⟩, ⟨by exact HO299.out⟩, ⟨by exact HI0.out⟩, ⟨by exact HK.out⟩, ⟨by exact HB.out⟩⟩
           ·rw [if_neg c29] at H
            exact absurd H (by simp)
        ·replace c12 := Bool.eq_false_iff.mpr c12
         subst c12
         replace H : (some (x7_2, x1000_2, x1001_2)) = some (r1, r2, r3) := by rw [if_neg (show ¬ (false = true) by decide)] at H; exact H
         simp only [Option.some.injEq, Prod.mk.injEq] at H
         obtain ⟨rfl, rfl, rfl⟩ := H
         go_wp2
         go_ret
         exact ⟨_, by rfl, by exact HO_7.out, by exact HI0.out, by exact HB.out, by exact HK.out⟩
   ·replace c6 := Bool.eq_false_iff.mpr c6
    subst c6
    replace H : (if a1 = 2 then ((er_runs.f kj3 s0_0 s0_1 a2).bind fun bt300 => (some (bt300.1, bt300.2.1, bt300.2.2))) else (if a1 = 3 then ((er_dict.f kj3 s0_0 s0_1 a2).bind fun bt305 => (some (bt305.1, bt305.2.1, bt305.2.2))) else (if a1 = 4 then ((er_number.f kj3 s0_0 s0_1).bind fun bt310 => ((er_byte.f bt310.2.1 bt310.2.2).bind fun bt313 => (if bt313.1 > 52 then (er_values.j3 kj3 a2 ([] : List Int) bt310.1 bt313.1 bt313.2.1 true) else (er_values.j3 kj3 a2 ([] : List Int) bt310.1 bt313.1 bt313.2.1 bt313.2.2)))) else (some (([] : List Int), s0_0, true))))) = some (r1, r2, r3) := by rw [if_neg (show ¬ (false = true) by decide)] at H; exact H
    by_cases c33 : a1 = 2
    ·rw [if_pos c33] at H
     have c33b0 : (a1 == 2) = true := beq_iff_eq.mpr c33
     have c33b1 : (a1 != 2) = false := bne_eq_false_iff_eq.mpr c33
     clear c33
     replace H := Option.bind_eq_some_iff.mp H
     obtain ⟨⟨t300, t303, t304⟩, A340, H⟩ := H
     replace H : (some (t300, t303, t304)) = some (r1, r2, r3) := H
     have A34 := Ak A340
     clear A340
     simp only [Option.some.injEq, Prod.mk.injEq] at H
     obtain ⟨rfl, rfl, rfl⟩ := H
     go_wp2_with (first | ((with_reducible refine gate_callee (f := 112) rfl ?_); refine goesL_ (some 53) rfl rfl Try.func112 (by kernel_rfl) rfl #[.pointer (some ⟨g, 0, none⟩), .int .i64 a2] rfl (by (try simp only [lm]); rfl) ?_; (with_reducible refine (er_runs.calls kj3 g s0_0 s0_1 a2 t300 t303 t304 w0 _ ?side1 ?side2 A34.out).mono ?_); (case side1 => exact HI0.out); (case side2 => exact HB.out); rintro e w35 ⟨v301, rfl, ho0, hi, hb, hk⟩; refine ⟨_, rfl, ?_⟩; have n0_ := Ak (Kd.R_mono (Kd.R_told (Kd.R_oldK (IsS71.apart (show IsS71 w0 _ g s0_0 s0_1 from by exact HI0.out) (by exact HO_7.out) (by decide)) hk) (Kd.R_base ho0)) (fun _ h_ => h_.1)); have n1_ := Ak (Kd.R_lower (Kd.R_new' ho0 (Kd.R_lt (by exact HO_7.out))) (keep_size (w := w) (g := g) (row := none) (by exact HK.out))); have n2_ := Ak (KeepBut.trans (by exact HK.out) hk (.inl rfl)); have n3_ := Ak (hb); have n4_ := Ak (hi); clear HO_7 HK HB HI0; have HO_7 := n0_; have HO302 := n1_; have HK := n2_; have HB := n3_; have HI0 := n4_; clear n0_ n1_ n2_ n3_ n4_; (try clear hb); (try clear hk); (try clear hi); (try clear ho0)))
     go_ret
     exact ⟨_, by rfl, by exact Kd.R_mono HO302.out (fun _ hk => trivial), by exact HI0.out, by exact HB.out, by exact HK.out⟩
    ·rw [if_neg c33] at H
     have c33b0 : (a1 == 2) = false := beq_eq_false_iff_ne.mpr c33
     have c33b1 : (a1 != 2) = true := bne_iff_ne.mpr c33
     by_cases c36 : a1 = 3
     ·rw [if_pos c36] at H
      have c36b0 : (a1 == 3) = true := beq_iff_eq.mpr c36
      have c36b1 : (a1 != 3) = false := bne_eq_false_iff_eq.mpr c36
      clear c36
      replace H := Option.bind_eq_some_iff.mp H
      obtain ⟨⟨t305, t308, t309⟩, A370, H⟩ := H
      replace H : (some (t305, t308, t309)) = some (r1, r2, r3) := H
      have A37 := Ak A370
      clear A370
      simp only [Option.some.injEq, Prod.mk.injEq] at H
      obtain ⟨rfl, rfl, rfl⟩ := H
      go_wp2_with (first | ((with_reducible refine gate_callee (f := 113) rfl ?_); refine goesL_ (some 58) rfl rfl Try.func113 (by kernel_rfl) rfl #[.pointer (some ⟨g, 0, none⟩), .int .i64 a2] rfl (by (try simp only [lm]); rfl) ?_; (with_reducible refine (er_dict.calls kj3 g s0_0 s0_1 a2 t305 t308 t309 w0 _ ?side1 ?side2 A37.out).mono ?_); (case side1 => exact HI0.out); (case side2 => exact HB.out); rintro e w38 ⟨v306, rfl, ho0, hi, hb, hk⟩; refine ⟨_, rfl, ?_⟩; have n0_ := Ak (Kd.R_mono (Kd.R_told (Kd.R_oldK (IsS71.apart (show IsS71 w0 _ g s0_0 s0_1 from by exact HI0.out) (by exact HO_7.out) (by decide)) hk) (Kd.R_base ho0)) (fun _ h_ => h_.1)); have n1_ := Ak (Kd.R_lower (Kd.R_new' ho0 (Kd.R_lt (by exact HO_7.out))) (keep_size (w := w) (g := g) (row := none) (by exact HK.out))); have n2_ := Ak (KeepBut.trans (by exact HK.out) hk (.inl rfl)); have n3_ := Ak (hb); have n4_ := Ak (hi); clear HO_7 HK HB HI0; have HO_7 := n0_; have HO307 := n1_; have HK := n2_; have HB := n3_; have HI0 := n4_; clear n0_ n1_ n2_ n3_ n4_; (try clear hb); (try clear hk); (try clear hi); (try clear ho0)))
      go_ret
      exact ⟨_, by rfl, by exact Kd.R_mono HO307.out (fun _ hk => trivial), by exact HI0.out, by exact HB.out, by exact HK.out⟩
     ·rw [if_neg c36] at H
      have c36b0 : (a1 == 3) = false := beq_eq_false_iff_ne.mpr c36
      have c36b1 : (a1 != 3) = true := bne_iff_ne.mpr c36
      by_cases c39 : a1 = 4
      ·rw [if_pos c39] at H
       have c39b0 : (a1 == 4) = true := beq_iff_eq.mpr c39
       have c39b1 : (a1 != 4) = false := bne_eq_false_iff_eq.mpr c39
       clear c39
       replace H := Option.bind_eq_some_iff.mp H
       obtain ⟨⟨t310, t311, t312⟩, A400, H⟩ := H
       replace H : ((er_byte.f t311 t312).bind fun bt313 => (if bt313.1 > 52 then (er_values.j3 kj3 a2 ([] : List Int) t310 bt313.1 bt313.2.1 true) else (er_values.j3 kj3 a2 ([] : List Int) t310 bt313.1 bt313.2.1 bt313.2.2))) = some (r1, r2, r3) := H
       have A40 := Ak A400
       clear A400
       replace H := Option.bind_eq_some_iff.mp H
       obtain ⟨⟨t313, t314, t315⟩, A410, H⟩ := H
       replace H : (if t313 > 52 then (er_values.j3 kj3 a2 ([] : List Int) t310 t313 t314 true) else (er_values.j3 kj3 a2 ([] : List Int) t310 t313 t314 t315)) = some (r1, r2, r3) := H
       have A41 := Ak A410
       clear A410
       have HC42 := Ak H
       clear H
       go_upto_if 66 with (first | ((with_reducible refine gate_callee (f := 111) rfl ?_); refine goesL_ (some 62) rfl rfl Try.func111 (by kernel_rfl) rfl #[.pointer (some ⟨g, 0, none⟩)] rfl (by (try simp only [lm]); rfl) ?_; (with_reducible refine (er_number.calls kj3 g s0_0 s0_1 t310 t311 t312 w0 _ ?side1 ?side2 A40.out).mono ?_); (case side1 => exact HI0.out); (case side2 => exact HB.out); rintro e w43 ⟨rfl, hi, hb, hk⟩; refine ⟨_, rfl, ?_⟩; have n0_ := Ak (Kd.R_mono (Kd.R_keep (IsS71.apart (show IsS71 w0 _ g s0_0 s0_1 from by exact HI0.out) (by exact HO_7.out) (by decide)) hk (fun _ h => h.2)) (fun _ h => h.1)); have n1_ := Ak (KeepBut.trans (by exact HK.out) hk (.inl rfl)); have n2_ := Ak (hb); have n3_ := Ak (hi); clear HO_7 HK HB HI0; have HO_7 := n0_; have HK := n1_; have HB := n2_; have HI0 := n3_; clear n0_ n1_ n2_ n3_; (try clear hb); (try clear hk); (try clear hi)) | ((with_reducible refine gate_callee (f := 56) rfl ?_); refine goesL_ (some 64) rfl rfl Try.func56 (by kernel_rfl) rfl #[.pointer (some ⟨g, 0, none⟩)] rfl (by (try simp only [lm]); rfl) ?_; (with_reducible refine (er_byte.calls g t311 t312 t313 t314 t315 w0 _ ?side1 ?side2 A41.out).mono ?_); (case side1 => exact HI0.out); (case side2 => exact HB.out); rintro e w44 ⟨rfl, hi, hb, hk⟩; refine ⟨_, rfl, ?_⟩; have n0_ := Ak (Kd.R_mono (Kd.R_keep (IsS71.apart (show IsS71 w0 _ g t311 t312 from by exact HI0.out) (by exact HO_7.out) (by decide)) hk (fun _ h => h.2)) (fun _ h => h.1)); have n1_ := Ak (KeepBut.trans (by exact HK.out) hk (.inl rfl)); have n2_ := Ak (hb); have n3_ := Ak (hi); clear HO_7 HK HB HI0; have HO_7 := n0_; have HK := n1_; have HB := n2_; have HI0 := n3_; clear n0_ n1_ n2_ n3_; (try clear hb); (try clear hk); (try clear hi)))
       (try simp only [Act.put, List.setIfInBounds_toArray, List.set_cons_zero, List.set_cons_succ])
       go_cut [] (fun wc => ∃ (kq : Nat) (x1001_41 : Bool), Aside0 (er_values.j3 kq a2 ([] : List Int) t310 t313 t314 x1001_41 = some (r1, r2, r3)) ∧ Aside0 (kq ≤ kj3) ∧ Aside0 (Kd.R (Kd.int .i64) 3 wc w.heap.size (fun _ => True) (.slice none 0 0) ([] : List Int)) ∧ Aside0 (IsS71 w0 wc g t314 x1001_41) ∧ Aside0 (KeepBut w wc g none) ∧ Aside0 (Below w0.heap.size w0 wc))
       case first =>
        have H := HC42.out
        clear HC42
        by_cases c45 : t313 > 52
        ·rw [if_pos c45] at H
         have c45b0 : decide (52 < t313) = true := decide_eq_true c45
         clear c45
         (rw [c45b0])
         (try rw [c45b1])
         have H' := Ak H
         clear H
         obtain ⟨ASz46_0, cSz46_0, HGz46, hgz46, HSz46_0⟩ := HI0.out
         have hcz46_0 := cellS71_0 HGz46
         have hcz46_1 := cellS71_1 HGz46
         have hfz46_0 := blk_frozen HGz46 0
         have hfz46_1 := blk_frozen HGz46 1
         have HCSz46_0 := HSz46_0.1
         replace HSz46_0 := HSz46_0.2
         clear HGz46 hgz46
         go_wp2
         go_meet
         case rel => exact ⟨_, (true), H', ⟨by have := HJ3.out; omega⟩, ⟨by exact Kd.R_mono (Kd.R_far (p := ⟨g, 1, none⟩) (IsS71.apart HI0.out HO_7.out (by decide)) (fun _ hk => hk.2) (.bool true)) (fun _ hk => trivial)⟩, ⟨by repeat ((with_reducible first | exact HI0.out | apply IsS71.set_1))⟩, ⟨by repeat ((with_reducible first | exact HK.out | apply KeepBut.set_ ))⟩, ⟨by repeat ((with_reducible first | exact HB.out | refine below_set ?_ (IsS71.ge HI0.out)))⟩⟩
        ·rw [if_neg c45] at H
         have c45b0 : decide (52 < t313) = false := decide_eq_false c45
         clear c45
         (rw [c45b0])
         (try rw [c45b1])
         have H' := Ak H
         clear H
         go_wp2
         go_meet
         case rel => exact ⟨_, (t315), H', ⟨by have := HJ3.out; omega⟩, ⟨by exact HO_7.out⟩, ⟨by exact HI0.out⟩, ⟨by exact HK.out⟩, ⟨by exact HB.out⟩⟩
       case rest =>
        clear HC42
        try clear c33
        try clear c33b0
        try clear c33b1
        try clear c36
        try clear c36b0
        try clear c36b1
        try clear c39b0
        try clear c39b1
        obtain ⟨kq, x1001_41, HA, HJ41, HO_7, HI0, HK, HB⟩ := hcut
        cases kq with
        | zero => exact absurd HA.out (by simp [er_values.j3])
        | succ kj41 =>
         have H := HA.out
         clear HA
         simp only [er_values.j3] at H
         have HC47 := Ak H
         clear H
         obtain ⟨ASz48_0, cSz48_0, HGz48, hgz48, HSz48_0⟩ := HI0.out
         have hcz48_0 := cellS71_0 HGz48
         have hcz48_1 := cellS71_1 HGz48
         have hfz48_0 := blk_frozen HGz48 0
         have hfz48_1 := blk_frozen HGz48 1
         have HCSz48_0 := HSz48_0.1
         replace HSz48_0 := HSz48_0.2
         clear HGz48 hgz48
         go_upto_if 74 with (fail)
         go_cut [7] (fun v7 wc => ∃ (kq : Nat) (x7_46 : List Int) (x1000_46 : List Int) (x1001_46 : Bool), Aside0 (er_values.j4 kq x7_46 t310 x1000_46 x1001_46 = some (r1, r2, r3)) ∧ Aside0 (kq ≤ kj41) ∧ Aside0 (Kd.R (Kd.int .i64) 3 wc w.heap.size (fun _ => True) v7 x7_46) ∧ Aside0 (IsS71 w0 wc g x1000_46 x1001_46) ∧ Aside0 (KeepBut w wc g none) ∧ Aside0 (Below w0.heap.size w0 wc))
         case first =>
          have H := HC47.out
          clear HC47
          by_cases c49 : x1001_41 = true
          ·subst c49
           replace H : (er_values.j4 kj41 ([] : List Int) t310 t314 true) = some (r1, r2, r3) := by rw [if_pos rfl] at H; exact H
           have H' := Ak H
           clear H
           go_wp2
           go_meet
           case rel => exact ⟨_, (([] : List Int)), (t314), (true), H', ⟨by have := HJ3.out; have := HJ41.out; omega⟩, ⟨by exact HO_7.out⟩, ⟨by exact HI0.out⟩, ⟨by exact HK.out⟩, ⟨by exact HB.out⟩⟩
          ·replace c49 := Bool.eq_false_iff.mpr c49
           subst c49
           replace H : ((er_packed.f kj41 t314 false a2 t313).bind fun bt316 => (er_values.j4 kj41 bt316.1 t310 bt316.2.1 bt316.2.2)) = some (r1, r2, r3) := by rw [if_neg (show ¬ (false = true) by decide)] at H; exact H
           replace H := Option.bind_eq_some_iff.mp H
           obtain ⟨⟨t316, t319, t320⟩, A500, H⟩ := H
           replace H : (er_values.j4 kj41 t316 t310 t319 t320) = some (r1, r2, r3) := H
           have A50 := Ak A500
           clear A500
           have H' := Ak H
           clear H
           go_wp2_with (first | ((with_reducible refine gate_callee (f := 114) rfl ?_); refine goesL_ (some 78) rfl rfl Try.func114 (by kernel_rfl) rfl #[.pointer (some ⟨g, 0, none⟩), .int .i64 a2, .int .i64 t313] rfl (by (try simp only [lm]); rfl) ?_; (with_reducible refine (er_packed.calls kj41 g t314 false a2 t313 t316 t319 t320 w0 _ ?side1 ?side2 A50.out).mono ?_); (case side1 => exact HI0.out); (case side2 => exact HB.out); rintro e w51 ⟨v317, rfl, ho0, hi, hb, hk⟩; refine ⟨_, rfl, ?_⟩; have n0_ := Ak (Kd.R_mono (Kd.R_told (Kd.R_oldK (IsS71.apart (show IsS71 w0 _ g t314 false from by exact HI0.out) (by exact HO_7.out) (by decide)) hk) (Kd.R_base ho0)) (fun _ h_ => h_.1)); have n1_ := Ak (Kd.R_lower (Kd.R_new' ho0 (Kd.R_lt (by exact HO_7.out))) (keep_size (w := w) (g := g) (row := none) (by exact HK.out))); have n2_ := Ak (KeepBut.trans (by exact HK.out) hk (.inl rfl)); have n3_ := Ak (hb); have n4_ := Ak (hi); clear HO_7 HK HB HI0; have HO_7 := n0_; have HO318 := n1_; have HK := n2_; have HB := n3_; have HI0 := n4_; clear n0_ n1_ n2_ n3_ n4_; (try clear hb); (try clear hk); (try clear hi); (try clear ho0)))
           go_meet
           case rel => exact ⟨_, (t316), (t319), (t320), H', ⟨by have := HJ3.out; have := HJ41.out; omega⟩, ⟨by exact Kd.R_mono HO318.out (fun _ hk => trivial)⟩, ⟨by exact HI0.out⟩, ⟨by exact HK.out⟩, ⟨by exact HB.out⟩⟩
         case rest =>
          clear HC47
          try clear hcz48_0
          try clear hcz48_1
          try clear hfz48_0
          try clear hfz48_1
          obtain ⟨kq, x7_46, x1000_46, x1001_46, HA, HJ46, HO_7, HI0, HK, HB⟩ := hcut
          cases kq with
          | zero => exact absurd HA.out (by simp [er_values.j4])
          | succ kj46 =>
           have H := HA.out
           clear HA
           simp only [er_values.j4] at H
           have H' := Ak H
           clear H
           obtain ⟨Ao52, co52, eo52⟩ := Kd.R_slice HO_7.out
           subst eo52
           go_wp2
           go_loopg [81] kj46 (fun kq v81 w' => ∃ (x7_4 : List Int) (x81_4 : Int), v81 = .int .i64 x81_4 ∧ Aside0 (er_values.l1 kq x7_4 t310 (x7_46.length : Int) x81_4 x1000_46 x1001_46 = some (r1, r2, r3)) ∧ Aside0 (kq ≤ kj46) ∧ Aside0 (Kd.R (Kd.int .i64) 3 w' w.heap.size (fun _ => True) (.slice Ao52 x7_46.length co52) x7_4) ∧ Aside0 (IsS71 w0 w' g x1000_46 x1001_46) ∧ Aside0 (KeepBut w w' g none) ∧ Aside0 (Below w0.heap.size w0 w'))
           case atStart => exact ⟨(x7_46), (0), (by rfl), H', ⟨Nat.le_refl _⟩, ⟨by exact HO_7.out⟩, ⟨by exact HI0.out⟩, ⟨by exact HK.out⟩, ⟨by exact HB.out⟩⟩
           case round =>
            clear H'
            obtain ⟨x7_4, x81_4, rfl, HA, HK4, HO_7, HI0, HK, HB⟩ := hrel
            have hl7_4 := (Kd.R_reads' HO_7.out).1
            rw [hl7_4] at HO_7
            (try simp only [hl7_4])
            cases gk with
            | zero => exact absurd HA.out (by simp [er_values.l1])
            | succ k4 =>
             have H := HA.out
             clear HA
             simp only [er_values.l1] at H
             by_cases c53 : x81_4 < (x7_46.length : Int)
             ·rw [if_pos c53] at H
              have c53b0 : decide (x81_4 < (x7_46.length : Int)) = true := decide_eq_true c53
              have c53l0 := c53b0
              (try rw [hl7_4] at c53l0)
              clear c53
              by_cases c54 : 0 ≤ x81_4
              ·rw [if_pos c54] at H
               have c54b0 : decide (0 ≤ x81_4) = true := decide_eq_true c54
               clear c54
               by_cases c55 : x81_4 < (x7_4.length : Int)
               ·rw [if_pos c55] at H
                have c55b0 : decide (x81_4 < (x7_4.length : Int)) = true := decide_eq_true c55
                have c55l0 := c55b0
                (try rw [hl7_4] at c55l0)
                clear c55
                obtain ⟨y322, hy322⟩ : ∃ y_ : List Int, y_ = (x7_4.set (x81_4 : Int).toNat (wrap64 ((rd x7_4 x81_4) + t310))) := ⟨_, rfl⟩
                replace H : (er_values.l1 k4 y322 t310 (x7_46.length : Int) (wrap64 (x81_4 + 1)) x1000_46 x1001_46) = some (r1, r2, r3) := by (rw [hy322]; with_reducible exact H)
                have Ny322 := Ak hy322
                clear hy322
                have H' := Ak H
                clear H
                have p321 : 0 ≤ (x81_4 : Int) := of_decide_eq_true (by (with_reducible assumption))
                have q321 : x81_4 < (x7_4.length : Int) := of_decide_eq_true (by (with_reducible assumption))
                obtain ⟨ad321, e321, hx321_0⟩ := Kd.at_int (Kd.R_reads' HO_7.out).2.2 x81_4 p321 q321
                cases e321
                replace p321 := eq_true p321
                replace q321 := eq_true q321
                have p56 : 0 ≤ (x81_4 : Int) := of_decide_eq_true (by (with_reducible assumption))
                have q56 : (x81_4 : Int) < ((x7_4.length : Int) : Int) := of_decide_eq_true (by (with_reducible assumption))
                obtain ⟨go56, co56, eo56, gb56, gl56, cl56, HG56⟩ := Kd.R_form HO_7.out (by omega)
                (cases eo56)
                have GB56 := Ak gb56
                have GG56 := Ak HG56
                clear gb56 gl56 HG56
                (simp only [add_plain] at hx321_0)
                obtain ⟨hx56_0, hf56_0⟩ := Kd.R_celln 0 HO_7.out (x81_4 : Int) p56 q56
                replace p56 := eq_true p56
                replace q56 := eq_true q56
                have HP57 := Kd.R_putg HO_7.out (x81_4 : Int) (wrap64 ((rd x7_4 x81_4) + t310))
                go_wp2_with (first | ((with_reducible refine gate_store (t := 3) (p := 90) rfl ?_); refine store_event (t := 3) (p := 90) (v := ?vo_w58) (w1 := (wr.setCell ⟨go56, (x81_4 : Int).toNat, none⟩ (.int .i64 (wrap64 ((rd x7_4 x81_4) + t310))))) ?hg ?ho ?hn ?hr ?_; (case ho => rfl); (case hg => rfl); (case hn => rfl); (case hr => (go_simp; done)); intro w58 hw; have hg : wr.grownBy w58 (some go56) := (by rw [hw]; exact HP57.2); have hp_ : Kd.R (Kd.int .i64) 3 w58 w.heap.size (fun _ => True) (.slice (some ⟨go56, 0, none⟩) x7_4.length co52) y322 := (by rw [hw, Ny322.out]; exact HP57.1); clear HP57; have n0_ := Ak (hp_); have n1_ := Ak (IsS71.grown (by exact HI0.out) hg (IsS71.own_ne HI0.out HO_7.out (by decide))); have n2_ := Ak ((by rw [hw]; exact below_set (HB.out) (Nat.le_trans HL.out GB56.out) : Below w0.heap.size w0 w58)); have n3_ := Ak (KeepBut.trans (by exact HK.out) (KeepBut.of_grown hg g) (Kd.R_base2 HO_7.out)); clear HO_7 HI0 HB HK; have HO_7 := n0_; have HI0 := n1_; have HB := n2_; have HK := n3_; clear n0_ n1_ n2_ n3_ hg hw hp_))
                (try simp only [← hl7_4])
                go_roundg k4
                case measure => have := HJ3.out; have := HJ41.out; have := HJ46.out; have := HK4.out; omega
                case rel => exact ⟨(y322), (wrap64 (x81_4 + 1)), (by rfl), H', ⟨by have := HJ3.out; have := HJ41.out; have := HJ46.out; have := HK4.out; omega⟩, ⟨by (try simp only [hl7_4]); exact HO_7.out⟩, ⟨by exact HI0.out⟩, ⟨by exact HK.out⟩, ⟨by exact HB.out⟩⟩
               ·rw [if_neg c55] at H
                exact absurd H (by simp)
              ·rw [if_neg c54] at H
               exact absurd H (by simp)
             ·rw [if_neg c53] at H
              have c53b0 : decide (x81_4 < (x7_46.length : Int)) = false := decide_eq_false c53
              have c53l0 := c53b0
              (try rw [hl7_4] at c53l0)
              clear c53
              simp only [Option.some.injEq, Prod.mk.injEq] at H
              obtain ⟨rfl, rfl, rfl⟩ := H
              go_wp2
              go_ret
              exact ⟨_, by rfl, by exact HO_7.out, by exact HI0.out, by exact HB.out, by exact HK.out⟩
      ·rw [if_neg c39] at H
       have c39b0 : (a1 == 4) = false := beq_eq_false_iff_ne.mpr c39
       have c39b1 : (a1 != 4) = true := bne_iff_ne.mpr c39
       simp only [Option.some.injEq, Prod.mk.injEq] at H
       obtain ⟨rfl, rfl, rfl⟩ := H
       obtain ⟨ASz59_0, cSz59_0, HGz59, hgz59, HSz59_0⟩ := HI0.out
       have hcz59_0 := cellS71_0 HGz59
       have hcz59_1 := cellS71_1 HGz59
       have hfz59_0 := blk_frozen HGz59 0
       have hfz59_1 := blk_frozen HGz59 1
       have HCSz59_0 := HSz59_0.1
       replace HSz59_0 := HSz59_0.2
       clear HGz59 hgz59
       go_wp2
       go_ret
       exact ⟨_, by rfl, by exact Kd.R_mono (Kd.R_far (p := ⟨g, 1, none⟩) (IsS71.apart HI0.out HO_7.out (by decide)) (fun _ hk => hk.2) (.bool true)) (fun _ hk => trivial), by repeat ((with_reducible first | exact HI0.out | apply IsS71.set_1)), by repeat ((with_reducible first | exact HB.out | refine below_set ?_ (IsS71.ge HI0.out))), by repeat ((with_reducible first | exact HK.out | apply KeepBut.set_ ))⟩
mutual
def e_decode.j0 : Nat → List Int → Int → Int → List Int → Bool → List Int → Bool → Option (List Int × Bool)
 | 0, _, _, _, _, _, _, _ => none
 | k + 1, x0, x5, x6, x7, x26, x324000, x324001 => if x26 = true then ((er_values.f k x324000 x324001 x5 x6).bind fun bt331 => (e_decode.j1 k x0 x5 bt331.1 bt331.2.1 bt331.2.2)) else (e_decode.j1 k x0 x5 x7 x324000 x324001)
def e_decode.j1 : Nat → List Int → Int → List Int → List Int → Bool → Option (List Int × Bool)
 | 0, _, _, _, _, _ => none
 | k + 1, x0, x5, x7, x324000, x324001 => if x324001 = true then (some (([] : List Int), false)) else ((e_check.f k x7).bind fun t336 => (if t336 = 0 then ((e_encode.f k x5 x7).bind fun t337 => ((bytes_Equal.f t337 x0).bind fun t340 => (if t340 = true then (some (x7, true)) else (some (([] : List Int), false))))) else (some (([] : List Int), false))))
end
def e_decode.f (k : Nat) (l0 : List Int) : Option (List Int × Bool) := (er_byte.f l0 false).bind fun bt324 => ((er_long.f k bt324.2.1 bt324.2.2).bind fun bt327 => ((kit_In.f bt324.1 1 5).bind fun t330 => (if t330 = true then (if bt327.1 > 0 then (e_decode.j0 k l0 bt324.1 bt327.1 ([] : List Int) (!bt327.2.2) bt327.2.1 bt327.2.2) else (e_decode.j0 k l0 bt324.1 bt327.1 ([] : List Int) false bt327.2.1 bt327.2.2)) else (some (([] : List Int), false)))))
theorem e_decode.mono_l : ∀ k, (∀ y0 y1 y2 y3 y4 y5 y6, LeO (e_decode.j0 k y0 y1 y2 y3 y4 y5 y6) (e_decode.j0 (k + 1) y0 y1 y2 y3 y4 y5 y6)) ∧ (∀ y0 y1 y2 y3 y4, LeO (e_decode.j1 k y0 y1 y2 y3 y4) (e_decode.j1 (k + 1) y0 y1 y2 y3 y4))
 | 0 => ⟨fun _ _ _ _ _ _ _ r h => by simp [e_decode.j0] at h, fun _ _ _ _ _ r h => by simp [e_decode.j1] at h⟩
 | k + 1 => by
  obtain ⟨ih0, ih1⟩ := e_decode.mono_l k
  refine ⟨?_, ?_⟩ <;> intros
  all_goals (first | unfold e_decode.j0 | unfold e_decode.j1)
  all_goals
   repeat' first
   | (with_reducible exact ih1 _ _ _ _ _)
   | (with_reducible exact e_check.mono _ _)
   | (with_reducible exact e_encode.mono _ _ _)
   | (with_reducible exact er_values.mono _ _ _ _ _)
   | (with_reducible exact LeO.refl _)
   | (with_reducible refine LeO.ite ?_ ?_)
   | (with_reducible refine LeO.bind ?_ (fun _ => ?_))
theorem e_decode.mono : ∀ a0 k, LeO (e_decode.f k a0) (e_decode.f (k + 1) a0) := by
 intro a0 k
 obtain ⟨ih0, ih1⟩ := e_decode.mono_l k
 unfold e_decode.f
 repeat' first
  | (with_reducible exact ih0 _ _ _ _ _ _ _)
  | (with_reducible exact er_long.mono _ _ _)
  | (with_reducible exact LeO.refl _)
  | (with_reducible refine LeO.ite ?_ ?_)
  | (with_reducible refine LeO.bind ?_ (fun _ => ?_))
set_option maxHeartbeats 8000000 in
set_option maxRecDepth 100000 in
theorem e_decode.calls (k : Nat) (A0 : Option Addr) (c0 : Nat) (l0 : List Int) (r1 : List Int) (r2 : Bool) (w : World) (hr0 : Kd.C (Kd.int .u8) w A0 l0.length l0) (hc0 : l0.length ≤ c0) (h : e_decode.f k l0 = some (r1, r2)) :
 Calls Try.prog 61 #[.slice A0 l0.length c0] w fun e w' => ∃ v0_ : Value, e = .returned (.tuple #[v0_, .bool r2]) ∧ Kd.R (Kd.int .i64) 3 w' w.heap.size (fun _ => True) v0_ r1 ∧ Below w.heap.size w w' := by
 have hu71 := Try.underlying71
 have HR0 := Ak hr0
 have HC0 := Ak hc0
 clear hr0 hc0
 have HB := Ak (Below.refl w.heap.size w)
 have H : ((er_byte.f l0 false).bind fun bt324 => ((er_long.f k bt324.2.1 bt324.2.2).bind fun bt327 => ((kit_In.f bt324.1 1 5).bind fun t330 => (if t330 = true then (if bt327.1 > 0 then (e_decode.j0 k l0 bt324.1 bt327.1 ([] : List Int) (!bt327.2.2) bt327.2.1 bt327.2.2) else (e_decode.j0 k l0 bt324.1 bt327.1 ([] : List Int) false bt327.2.1 bt327.2.2)) else (some (([] : List Int), false)))))) = some (r1, r2) := h
 clear h
 replace H := Option.bind_eq_some_iff.mp H
 obtain ⟨⟨t324, t325, t326⟩, A20, H⟩ := H
 replace H : ((er_long.f k t325 t326).bind fun bt327 => ((kit_In.f t324 1 5).bind fun t330 => (if t330 = true then (if bt327.1 > 0 then (e_decode.j0 k l0 t324 bt327.1 ([] : List Int) (!bt327.2.2) bt327.2.1 bt327.2.2) else (e_decode.j0 k l0 t324 bt327.1 ([] : List Int) false bt327.2.1 bt327.2.2)) else (some (([] : List Int), false))))) = some (r1, r2) := H
 have A2 := Ak A20
 clear A20
 replace H := Option.bind_eq_some_iff.mp H
 obtain ⟨⟨t327, t328, t329⟩, A30, H⟩ := H
 replace H : ((kit_In.f t324 1 5).bind fun t330 => (if t330 = true then (if t327 > 0 then (e_decode.j0 k l0 t324 t327 ([] : List Int) (!t329) t328 t329) else (e_decode.j0 k l0 t324 t327 ([] : List Int) false t328 t329)) else (some (([] : List Int), false)))) = some (r1, r2) := H
 have A3 := Ak A30
 clear A30
 replace H := Option.bind_eq_some_iff.mp H
 obtain ⟨t330, A40, H⟩ := H
 replace H : (if t330 = true then (if t327 > 0 then (e_decode.j0 k l0 t324 t327 ([] : List Int) (!t329) t328 t329) else (e_decode.j0 k l0 t324 t327 ([] : List Int) false t328 t329)) else (some (([] : List Int), false))) = some (r1, r2) := H
 have A4 := Ak A40
 clear A40
 by_cases c5 : t330 = true
 ·subst c5
  replace H : (if t327 > 0 then (e_decode.j0 k l0 t324 t327 ([] : List Int) (!t329) t328 t329) else (e_decode.j0 k l0 t324 t327 ([] : List Int) false t328 t329)) = some (r1, r2) := by rw [if_pos rfl] at H; exact H
  have HC6 := Ak H
  clear H
  go_enter Try.func61, Try.ntmps61
  go_upto_region 6 with (first | ((with_reducible refine gate_dst (N := 10) rfl ?_); refine box_event ?hg (N := 10) ?hd (cs := #[.slice A0 l0.length c0, .bool false]) (t := 71) ?hr ?_; (case hd => rfl); (case hg => rfl); (case hr => (go_simp; done)); intro gb323 hg w7 hbox hb; have n0_ := Ak (below_step (by exact HB.out) hb); have n1_ := Ak ((by rw [hg]; exact (below_size (by exact HB.out)) : w.heap.size ≤ gb323)); have n2_ := Ak ((by rw [hg]; exact (below_size (by exact HB.out)) : w.heap.size ≤ gb323)); have n3_ := Ak ((show IsS71 w w7 gb323 l0 false from ⟨_, _, hbox, (by rw [hg]; exact (below_size (by exact HB.out)) : w.heap.size ≤ gb323), ⟨HC0.out, HR0.out⟩⟩)); clear HB; have HB := n0_; have GW323 := n1_; have GE323 := n2_; have HI323 := n3_; clear n0_ n1_ n2_ n3_ hb hbox hg) | ((with_reducible refine gate_callee (f := 56) rfl ?_); refine goesL_ (some 12) rfl rfl Try.func56 (by kernel_rfl) rfl #[.pointer (some ⟨gb323, 0, none⟩)] rfl (by (try simp only [lm]); rfl) ?_; (with_reducible refine (er_byte.calls gb323 l0 false t324 t325 t326 w _ ?side1 ?side2 A2.out).mono ?_); (case side1 => exact HI323.out); (case side2 => exact HB.out); rintro e w8 ⟨rfl, hi, hb, hk⟩; refine ⟨_, rfl, ?_⟩; have n0_ := Ak (hb); have n1_ := Ak (hi); clear HB HI323; have HB := n0_; have HI323 := n1_; clear n0_ n1_; (try clear hb); (try clear hk); (try clear hi)) | ((with_reducible refine gate_callee (f := 79) rfl ?_); refine goesL_ (some 14) rfl rfl Try.func79 (by kernel_rfl) rfl #[.pointer (some ⟨gb323, 0, none⟩)] rfl (by (try simp only [lm]); rfl) ?_; (with_reducible refine (er_long.calls k gb323 t325 t326 t327 t328 t329 w _ ?side1 ?side2 A3.out).mono ?_); (case side1 => exact HI323.out); (case side2 => exact HB.out); rintro e w9 ⟨rfl, hi, hb, hk⟩; refine ⟨_, rfl, ?_⟩; have n0_ := Ak (hb); have n1_ := Ak (hi); clear HB HI323; have HB := n0_; have HI323 := n1_; clear n0_ n1_; (try clear hb); (try clear hk); (try clear hi)) | ((with_reducible refine gate_callee (f := 52) rfl ?_); refine goesL_ (some 16) rfl rfl Try.func52 (by kernel_rfl) rfl #[.int .i64 t324, .int .i64 1, .int .i64 5] rfl (by (try simp only [lm]); rfl) ?_; (with_reducible refine (kit_In.calls t324 1 5 true _ A4.out).mono ?_); rintro e w' ⟨rfl, ⟨nd, rfl⟩⟩; refine ⟨_, rfl, ?_⟩))
  (try simp only [Act.put, List.setIfInBounds_toArray, List.set_cons_zero, List.set_cons_succ])
  go_cut [26] (fun v26 wc => ∃ (kq : Nat) (x26_5 : Bool), v26 = .bool x26_5 ∧ Aside0 (e_decode.j0 kq l0 t324 t327 ([] : List Int) x26_5 t328 t329 = some (r1, r2)) ∧ Aside0 (kq ≤ k) ∧ Aside0 (Kd.R (Kd.int .i64) 3 wc w.heap.size (fun _ => True) (.slice none 0 0) ([] : List Int)) ∧ Aside0 (IsS71 w wc gb323 t328 t329) ∧ Aside0 (Below w.heap.size w wc))
  case first =>
   have H := HC6.out
   clear HC6
   by_cases c10 : t327 > 0
   ·rw [if_pos c10] at H
    have c10b0 : decide (0 < t327) = true := decide_eq_true c10
    clear c10
    (skip)
    (try rw [c10b1])
    have H' := Ak H
    clear H
    obtain ⟨ASz11_0, cSz11_0, HGz11, hgz11, HSz11_0⟩ := HI323.out
    have hcz11_0 := cellS71_0 HGz11
    have hcz11_1 := cellS71_1 HGz11
    have hfz11_0 := blk_frozen HGz11 0
    have hfz11_1 := blk_frozen HGz11 1
    have HCSz11_0 := HSz11_0.1
    replace HSz11_0 := HSz11_0.2
    clear HGz11 hgz11
    go_wp2
    go_meet
    case rel => exact ⟨_, (!t329), (by rfl), H', ⟨by omega⟩, ⟨by exact Kd.R_nil _ _ _ _ _⟩, ⟨by repeat ((with_reducible first | exact HI323.out | apply IsS71.drewN ))⟩, ⟨by repeat ((with_reducible first | exact HB.out | apply pw_below_drewN ))⟩⟩
   ·rw [if_neg c10] at H
    have c10b0 : decide (0 < t327) = false := decide_eq_false c10
    clear c10
    (skip)
    (try rw [c10b1])
    have H' := Ak H
    clear H
    go_wp2
    go_meet
    case rel => exact ⟨_, (false), (by rfl), H', ⟨by omega⟩, ⟨by exact Kd.R_nil _ _ _ _ _⟩, ⟨by repeat ((with_reducible first | exact HI323.out | apply IsS71.drewN ))⟩, ⟨by repeat ((with_reducible first | exact HB.out | apply pw_below_drewN ))⟩⟩
  case rest =>
   clear HC6
   obtain ⟨kq, x26_5, rfl, HA, HJ5, HO_7, HI323, HB⟩ := hcut
   cases kq with
   | zero => exact absurd HA.out (by simp [e_decode.j0])
   | succ kj5 =>
    have H := HA.out
    clear HA
    simp only [e_decode.j0] at H
    have HC12 := Ak H
    clear H
    go_upto_if 26 with (fail)
    go_cut [7] (fun v7 wc => ∃ (kq : Nat) (x7_11 : List Int) (x324000_11 : List Int) (x324001_11 : Bool), Aside0 (e_decode.j1 kq l0 t324 x7_11 x324000_11 x324001_11 = some (r1, r2)) ∧ Aside0 (kq ≤ kj5) ∧ Aside0 (Kd.R (Kd.int .i64) 3 wc w.heap.size (fun _ => True) v7 x7_11) ∧ Aside0 (IsS71 w wc gb323 x324000_11 x324001_11) ∧ Aside0 (Below w.heap.size w wc))
    case first =>
     have H := HC12.out
     clear HC12
     by_cases c13 : x26_5 = true
     ·subst c13
      replace H : ((er_values.f kj5 t328 t329 t324 t327).bind fun bt331 => (e_decode.j1 kj5 l0 t324 bt331.1 bt331.2.1 bt331.2.2)) = some (r1, r2) := by rw [if_pos rfl] at H; exact H
      replace H := Option.bind_eq_some_iff.mp H
      obtain ⟨⟨t331, t334, t335⟩, A140, H⟩ := H
      replace H : (e_decode.j1 kj5 l0 t324 t331 t334 t335) = some (r1, r2) := H
      have A14 := Ak A140
      clear A140
      have H' := Ak H
      clear H
      go_wp2_with (first | ((with_reducible refine gate_callee (f := 80) rfl ?_); refine goesL_ (some 30) rfl rfl Try.func80 (by kernel_rfl) rfl #[.pointer (some ⟨gb323, 0, none⟩), .int .i64 t324, .int .i64 t327] rfl (by (try simp only [lm]); rfl) ?_; (with_reducible refine (er_values.calls kj5 gb323 t328 t329 t324 t327 t331 t334 t335 w _ ?side1 ?side2 A14.out).mono ?_); (case side1 => exact HI323.out); (case side2 => exact HB.out); rintro e w15 ⟨v332, rfl, ho0, hi, hb, hk⟩; refine ⟨_, rfl, ?_⟩; have n0_ := Ak (Kd.R_mono (Kd.R_told (Kd.R_oldK (IsS71.apart (show IsS71 w _ gb323 t328 t329 from by exact HI323.out) (by exact HO_7.out) (by decide)) hk) (Kd.R_base ho0)) (fun _ h_ => h_.1)); have n1_ := Ak (Kd.R_lower (Kd.R_new' ho0 (Kd.R_lt (by exact HO_7.out))) (below_size (by exact HB.out))); have n2_ := Ak (hb); have n3_ := Ak (hi); clear HO_7 HB HI323; have HO_7 := n0_; have HO333 := n1_; have HB := n2_; have HI323 := n3_; clear n0_ n1_ n2_ n3_; (try clear hb); (try clear hk); (try clear hi); (try clear ho0)))
      go_meet
      case rel => exact ⟨_, (t331), (t334), (t335), H', ⟨by have := HJ5.out; omega⟩, ⟨by exact Kd.R_mono HO333.out (fun _ hk => trivial)⟩, ⟨by exact HI323.out⟩, ⟨by exact HB.out⟩⟩
     ·replace c13 := Bool.eq_false_iff.mpr c13
      subst c13
      replace H : (e_decode.j1 kj5 l0 t324 ([] : List Int) t328 t329) = some (r1, r2) := by rw [if_neg (show ¬ (false = true) by decide)] at H; exact H
      have H' := Ak H
      clear H
      go_wp2
      go_meet
      case rel => exact ⟨_, (([] : List Int)), (t328), (t329), H', ⟨by have := HJ5.out; omega⟩, ⟨by exact HO_7.out⟩, ⟨by exact HI323.out⟩, ⟨by exact HB.out⟩⟩
    case rest =>
     clear HC12
     obtain ⟨kq, x7_11, x324000_11, x324001_11, HA, HJ11, HO_7, HI323, HB⟩ := hcut
     cases kq with
     | zero => exact absurd HA.out (by simp [e_decode.j1])
     | succ kj11 =>
      have H := HA.out
      clear HA
      simp only [e_decode.j1] at H
      by_cases c16 : x324001_11 = true
      ·subst c16
       replace H : (some (([] : List Int), false)) = some (r1, r2) := by rw [if_pos rfl] at H; exact H
       simp only [Option.some.injEq, Prod.mk.injEq] at H
       obtain ⟨rfl, rfl⟩ := H
       obtain ⟨ASz17_0, cSz17_0, HGz17, hgz17, HSz17_0⟩ := HI323.out
       have hcz17_0 := cellS71_0 HGz17
       have hcz17_1 := cellS71_1 HGz17
       have hfz17_0 := blk_frozen HGz17 0
       have hfz17_1 := blk_frozen HGz17 1
       have HCSz17_0 := HSz17_0.1
       replace HSz17_0 := HSz17_0.2
       clear HGz17 hgz17
       go_wp2
       go_ret2
       exact ⟨_, by rfl, by exact Kd.R_nil _ _ _ _ _, by exact HB.out⟩
      ·replace c16 := Bool.eq_false_iff.mpr c16
       subst c16
       replace H : ((e_check.f kj11 x7_11).bind fun t336 => (if t336 = 0 then ((e_encode.f kj11 t324 x7_11).bind fun t337 => ((bytes_Equal.f t337 l0).bind fun t340 => (if t340 = true then (some (x7_11, true)) else (some (([] : List Int), false))))) else (some (([] : List Int), false)))) = some (r1, r2) := by rw [if_neg (show ¬ (false = true) by decide)] at H; exact H
       replace H := Option.bind_eq_some_iff.mp H
       obtain ⟨t336, A180, H⟩ := H
       replace H : (if t336 = 0 then ((e_encode.f kj11 t324 x7_11).bind fun t337 => ((bytes_Equal.f t337 l0).bind fun t340 => (if t340 = true then (some (x7_11, true)) else (some (([] : List Int), false))))) else (some (([] : List Int), false))) = some (r1, r2) := H
       have A18 := Ak A180
       clear A180
       by_cases c19 : t336 = 0
       ·rw [if_pos c19] at H
        have c19b0 : (t336 == 0) = true := beq_iff_eq.mpr c19
        have c19b1 : (t336 != 0) = false := bne_eq_false_iff_eq.mpr c19
        clear c19
        replace H := Option.bind_eq_some_iff.mp H
        obtain ⟨t337, A200, H⟩ := H
        replace H : ((bytes_Equal.f t337 l0).bind fun t340 => (if t340 = true then (some (x7_11, true)) else (some (([] : List Int), false)))) = some (r1, r2) := H
        have A20 := Ak A200
        clear A200
        replace H := Option.bind_eq_some_iff.mp H
        obtain ⟨t340, A210, H⟩ := H
        replace H : (if t340 = true then (some (x7_11, true)) else (some (([] : List Int), false))) = some (r1, r2) := H
        have A21 := Ak A210
        clear A210
        by_cases c22 : t340 = true
        ·subst c22
         replace H : (some (x7_11, true)) = some (r1, r2) := by rw [if_pos rfl] at H; exact H
         simp only [Option.some.injEq, Prod.mk.injEq] at H
         obtain ⟨rfl, rfl⟩ := H
         obtain ⟨ASz23_0, cSz23_0, HGz23, hgz23, HSz23_0⟩ := HI323.out
         have hcz23_0 := cellS71_0 HGz23
         have hcz23_1 := cellS71_1 HGz23
         have hfz23_0 := blk_frozen HGz23 0
         have hfz23_1 := blk_frozen HGz23 1
         have HCSz23_0 := HSz23_0.1
         replace HSz23_0 := HSz23_0.2
         clear HGz23 hgz23
         obtain ⟨Ao24, co24, eo24⟩ := Kd.R_slice HO_7.out
         subst eo24
         go_wp2_with (first | (go_at_call 50; (with_reducible refine (e_check.calls kj11 _ _ x7_11 t336 _ ?side1 ?side2 A18.out).mono ?_); (case side1 => repeat (exact (Kd.R_reads' HO_7.out).2.2)); (case side2 => exact (Kd.R_reads' HO_7.out).2.1); rintro e w' ⟨rfl, ⟨nd, rfl⟩⟩) | (go_at_call 53; (with_reducible refine (e_encode.calls kj11 t324 _ _ x7_11 t337 _ ?side1 ?side2 A20.out).mono ?_); (case side1 => repeat (exact (Kd.R_reads' HO_7.out).2.2)); (case side2 => exact (Kd.R_reads' HO_7.out).2.1); rintro e w25 ⟨v338, rfl, ho0, hb⟩; have n0_ := Ak (Kd.R_below (by (with_reducible repeat (apply Kd.R_drewN)); exact HO_7.out) hb); have n1_ := Ak (Kd.R_lower ho0 (below_size (by repeat ((with_reducible first | exact HB.out | apply pw_below_drewN ))))); have n2_ := Ak (IsS71.below (by repeat ((with_reducible first | exact HI323.out | apply IsS71.drewN ))) hb); have n3_ := Ak (below_step (by repeat ((with_reducible first | exact HB.out | apply pw_below_drewN ))) hb); clear HO_7 HI323 HB; have HO_7 := n0_; have HO339 := n1_; have HI323 := n2_; have HB := n3_; clear n0_ n1_ n2_ n3_; (try clear hb); (try clear ho0); obtain ⟨Ao26, co26, eo26⟩ := Kd.R_slice HO339.out; subst eo26) | (go_at_call 58; (with_reducible refine (bytes_Equal.calls _ _ t337 _ _ l0 true _ ?side1 ?side2 ?side3 ?side4 A21.out).mono ?_); (case side1 => repeat (exact (Kd.R_reads' HO339.out).2.2)); (case side2 => exact (Kd.R_reads' HO339.out).2.1); (case side3 => repeat (exact (Kd.C_below HR0.out HB.out))); (case side4 => exact HC0.out); rintro e w' ⟨rfl, ⟨nd, rfl⟩⟩))
         go_ret2
         exact ⟨_, by rfl, by (with_reducible repeat (apply Kd.R_drewN)); exact HO_7.out, by repeat ((with_reducible first | exact HB.out | apply pw_below_drewN ))⟩
        ·replace c22 := Bool.eq_false_iff.mpr c22
         subst c22
         replace H : (some (([] : List Int), false)) = some (r1, r2) := by rw [if_neg (show ¬ (false = true) by decide)] at H; exact H
         simp only [Option.some.injEq, Prod.mk.injEq] at H
         obtain ⟨rfl, rfl⟩ := H
         obtain ⟨ASz27_0, cSz27_0, HGz27, hgz27, HSz27_0⟩ := HI323.out
         have hcz27_0 := cellS71_0 HGz27
         have hcz27_1 := cellS71_1 HGz27
         have hfz27_0 := blk_frozen HGz27 0
         have hfz27_1 := blk_frozen HGz27 1
         have HCSz27_0 := HSz27_0.1
         replace HSz27_0 := HSz27_0.2
         clear HGz27 hgz27
         obtain ⟨Ao28, co28, eo28⟩ := Kd.R_slice HO_7.out
         subst eo28
         go_wp2_with (first | (go_at_call 50; (with_reducible refine (e_check.calls kj11 _ _ x7_11 t336 _ ?side1 ?side2 A18.out).mono ?_); (case side1 => repeat (exact (Kd.R_reads' HO_7.out).2.2)); (case side2 => exact (Kd.R_reads' HO_7.out).2.1); rintro e w' ⟨rfl, ⟨nd, rfl⟩⟩) | (go_at_call 53; (with_reducible refine (e_encode.calls kj11 t324 _ _ x7_11 t337 _ ?side1 ?side2 A20.out).mono ?_); (case side1 => repeat (exact (Kd.R_reads' HO_7.out).2.2)); (case side2 => exact (Kd.R_reads' HO_7.out).2.1); rintro e w29 ⟨v338, rfl, ho0, hb⟩; have n0_ := Ak (Kd.R_below (by (with_reducible repeat (apply Kd.R_drewN)); exact HO_7.out) hb); have n1_ := Ak (Kd.R_lower ho0 (below_size (by repeat ((with_reducible first | exact HB.out | apply pw_below_drewN ))))); have n2_ := Ak (IsS71.below (by repeat ((with_reducible first | exact HI323.out | apply IsS71.drewN ))) hb); have n3_ := Ak (below_step (by repeat ((with_reducible first | exact HB.out | apply pw_below_drewN ))) hb); clear HO_7 HI323 HB; have HO_7 := n0_; have HO339 := n1_; have HI323 := n2_; have HB := n3_; clear n0_ n1_ n2_ n3_; (try clear hb); (try clear ho0); obtain ⟨Ao30, co30, eo30⟩ := Kd.R_slice HO339.out; subst eo30) | (go_at_call 58; (with_reducible refine (bytes_Equal.calls _ _ t337 _ _ l0 false _ ?side1 ?side2 ?side3 ?side4 A21.out).mono ?_); (case side1 => repeat (exact (Kd.R_reads' HO339.out).2.2)); (case side2 => exact (Kd.R_reads' HO339.out).2.1); (case side3 => repeat (exact (Kd.C_below HR0.out HB.out))); (case side4 => exact HC0.out); rintro e w' ⟨rfl, ⟨nd, rfl⟩⟩))
         go_ret2
         exact ⟨_, by rfl, by exact Kd.R_nil _ _ _ _ _, by repeat ((with_reducible first | exact HB.out | apply pw_below_drewN ))⟩
       ·rw [if_neg c19] at H
        have c19b0 : (t336 == 0) = false := beq_eq_false_iff_ne.mpr c19
        have c19b1 : (t336 != 0) = true := bne_iff_ne.mpr c19
        simp only [Option.some.injEq, Prod.mk.injEq] at H
        obtain ⟨rfl, rfl⟩ := H
        obtain ⟨ASz31_0, cSz31_0, HGz31, hgz31, HSz31_0⟩ := HI323.out
        have hcz31_0 := cellS71_0 HGz31
        have hcz31_1 := cellS71_1 HGz31
        have hfz31_0 := blk_frozen HGz31 0
        have hfz31_1 := blk_frozen HGz31 1
        have HCSz31_0 := HSz31_0.1
        replace HSz31_0 := HSz31_0.2
        clear HGz31 hgz31
        obtain ⟨Ao32, co32, eo32⟩ := Kd.R_slice HO_7.out
        subst eo32
        go_wp2_with (first | (go_at_call 50; (with_reducible refine (e_check.calls kj11 _ _ x7_11 t336 _ ?side1 ?side2 A18.out).mono ?_); (case side1 => repeat (exact (Kd.R_reads' HO_7.out).2.2)); (case side2 => exact (Kd.R_reads' HO_7.out).2.1); rintro e w' ⟨rfl, ⟨nd, rfl⟩⟩))
        go_ret2
        exact ⟨_, by rfl, by exact Kd.R_nil _ _ _ _ _, by repeat ((with_reducible first | exact HB.out | apply pw_below_drewN ))⟩
 ·replace c5 := Bool.eq_false_iff.mpr c5
  subst c5
  replace H : (some (([] : List Int), false)) = some (r1, r2) := by rw [if_neg (show ¬ (false = true) by decide)] at H; exact H
  simp only [Option.some.injEq, Prod.mk.injEq] at H
  obtain ⟨rfl, rfl⟩ := H
  go_enter Try.func61, Try.ntmps61
  go_wp2_with (first | ((with_reducible refine gate_dst (N := 10) rfl ?_); refine box_event ?hg (N := 10) ?hd (cs := #[.slice A0 l0.length c0, .bool false]) (t := 71) ?hr ?_; (case hd => rfl); (case hg => rfl); (case hr => (go_simp; done)); intro gb323 hg w33 hbox hb; have n0_ := Ak (below_step (by exact HB.out) hb); have n1_ := Ak ((by rw [hg]; exact (below_size (by exact HB.out)) : w.heap.size ≤ gb323)); have n2_ := Ak ((by rw [hg]; exact (below_size (by exact HB.out)) : w.heap.size ≤ gb323)); have n3_ := Ak ((show IsS71 w w33 gb323 l0 false from ⟨_, _, hbox, (by rw [hg]; exact (below_size (by exact HB.out)) : w.heap.size ≤ gb323), ⟨HC0.out, HR0.out⟩⟩)); clear HB; have HB := n0_; have GW323 := n1_; have GE323 := n2_; have HI323 := n3_; clear n0_ n1_ n2_ n3_ hb hbox hg) | ((with_reducible refine gate_callee (f := 56) rfl ?_); refine goesL_ (some 12) rfl rfl Try.func56 (by kernel_rfl) rfl #[.pointer (some ⟨gb323, 0, none⟩)] rfl (by (try simp only [lm]); rfl) ?_; (with_reducible refine (er_byte.calls gb323 l0 false t324 t325 t326 w _ ?side1 ?side2 A2.out).mono ?_); (case side1 => exact HI323.out); (case side2 => exact HB.out); rintro e w34 ⟨rfl, hi, hb, hk⟩; refine ⟨_, rfl, ?_⟩; have n0_ := Ak (hb); have n1_ := Ak (hi); clear HB HI323; have HB := n0_; have HI323 := n1_; clear n0_ n1_; (try clear hb); (try clear hk); (try clear hi)) | ((with_reducible refine gate_callee (f := 79) rfl ?_); refine goesL_ (some 14) rfl rfl Try.func79 (by kernel_rfl) rfl #[.pointer (some ⟨gb323, 0, none⟩)] rfl (by (try simp only [lm]); rfl) ?_; (with_reducible refine (er_long.calls k gb323 t325 t326 t327 t328 t329 w _ ?side1 ?side2 A3.out).mono ?_); (case side1 => exact HI323.out); (case side2 => exact HB.out); rintro e w35 ⟨rfl, hi, hb, hk⟩; refine ⟨_, rfl, ?_⟩; have n0_ := Ak (hb); have n1_ := Ak (hi); clear HB HI323; have HB := n0_; have HI323 := n1_; clear n0_ n1_; (try clear hb); (try clear hk); (try clear hi)) | ((with_reducible refine gate_callee (f := 52) rfl ?_); refine goesL_ (some 16) rfl rfl Try.func52 (by kernel_rfl) rfl #[.int .i64 t324, .int .i64 1, .int .i64 5] rfl (by (try simp only [lm]); rfl) ?_; (with_reducible refine (kit_In.calls t324 1 5 false _ A4.out).mono ?_); rintro e w' ⟨rfl, ⟨nd, rfl⟩⟩; refine ⟨_, rfl, ?_⟩))
  go_ret2
  exact ⟨_, by rfl, by exact Kd.R_nil _ _ _ _ _, by repeat ((with_reducible first | exact HB.out | apply pw_below_drewN ))⟩
def e_Decode.f (k : Nat) (l0 : List Int) : Option (List Int × Int) := if (l0.length : Int) > 500000 then (some (([] : List Int), 2)) else ((e_decode.f k l0).bind fun bt341 => (if bt341.2 = true then (some (bt341.1, 0)) else (some (([] : List Int), 3))))
theorem e_Decode.mono : ∀ a0 k, LeO (e_Decode.f k a0) (e_Decode.f (k + 1) a0) := by
 intro a0 k
 unfold e_Decode.f
 repeat' first
  | (with_reducible exact e_decode.mono _ _)
  | (with_reducible exact LeO.refl _)
  | (with_reducible refine LeO.ite ?_ ?_)
  | (with_reducible refine LeO.bind ?_ (fun _ => ?_))
set_option maxHeartbeats 8000000 in
set_option maxRecDepth 100000 in
theorem e_Decode.calls (k : Nat) (A0 : Option Addr) (c0 : Nat) (l0 : List Int) (r1 : List Int) (r2 : Int) (w : World) (hr0 : Kd.C (Kd.int .u8) w A0 l0.length l0) (hc0 : l0.length ≤ c0) (h : e_Decode.f k l0 = some (r1, r2)) :
 Calls Try.prog 21 #[.slice A0 l0.length c0] w fun e w' => ∃ v0_ : Value, e = .returned (.tuple #[v0_, .int .i64 r2]) ∧ Kd.R (Kd.int .i64) 3 w' w.heap.size (fun _ => True) v0_ r1 ∧ Below w.heap.size w w' := by
 have HR0 := Ak hr0
 have HC0 := Ak hc0
 clear hr0 hc0
 have HB := Ak (Below.refl w.heap.size w)
 have H : (if (l0.length : Int) > 500000 then (some (([] : List Int), 2)) else ((e_decode.f k l0).bind fun bt341 => (if bt341.2 = true then (some (bt341.1, 0)) else (some (([] : List Int), 3))))) = some (r1, r2) := h
 clear h
 by_cases c2 : (l0.length : Int) > 500000
 ·rw [if_pos c2] at H
  have c2b0 : decide (500000 < (l0.length : Int)) = true := decide_eq_true c2
  have c2b1 : decide (500000 < l0.length) = true := decide_eq_true (by omega)
  clear c2
  simp only [Option.some.injEq, Prod.mk.injEq] at H
  obtain ⟨rfl, rfl⟩ := H
  go_enter Try.func21, Try.ntmps21
  go_wp2
  go_ret2
  exact ⟨_, by rfl, by exact Kd.R_nil _ _ _ _ _, by exact HB.out⟩
 ·rw [if_neg c2] at H
  have c2b0 : decide (500000 < (l0.length : Int)) = false := decide_eq_false c2
  have c2b1 : decide (500000 < l0.length) = false := decide_eq_false (by omega)
  clear c2
  replace H := Option.bind_eq_some_iff.mp H
  obtain ⟨⟨t341, t342⟩, A30, H⟩ := H
  replace H : (if t342 = true then (some (t341, 0)) else (some (([] : List Int), 3))) = some (r1, r2) := H
  have A3 := Ak A30
  clear A30
  by_cases c4 : t342 = true
  ·subst c4
   replace H : (some (t341, 0)) = some (r1, r2) := by rw [if_pos rfl] at H; exact H
   simp only [Option.some.injEq, Prod.mk.injEq] at H
   obtain ⟨rfl, rfl⟩ := H
   go_enter Try.func21, Try.ntmps21
   go_wp2_with (first | ((with_reducible refine gate_callee (f := 61) rfl ?_); refine goesL_ (some 11) rfl rfl Try.func61 (by kernel_rfl) rfl #[.slice A0 l0.length c0] rfl (by (try simp only [lm]); rfl) ?_; (with_reducible refine (e_decode.calls k _ _ l0 t341 true _ ?side1 ?side2 A3.out).mono ?_); (case side1 => repeat (exact HR0.out)); (case side2 => exact HC0.out); rintro e w5 ⟨v343, rfl, ho0, hb⟩; refine ⟨_, rfl, ?_⟩; have n0_ := Ak (Kd.R_lower ho0 (below_size (by exact HB.out))); have n1_ := Ak (below_step (by exact HB.out) hb); clear HB; have HO344 := n0_; have HB := n1_; clear n0_ n1_; (try clear hb); (try clear ho0)))
   go_ret2
   exact ⟨_, by rfl, by exact HO344.out, by exact HB.out⟩
  ·replace c4 := Bool.eq_false_iff.mpr c4
   subst c4
   replace H : (some (([] : List Int), 3)) = some (r1, r2) := by rw [if_neg (show ¬ (false = true) by decide)] at H; exact H
   simp only [Option.some.injEq, Prod.mk.injEq] at H
   obtain ⟨rfl, rfl⟩ := H
   go_enter Try.func21, Try.ntmps21
   go_wp2_with (first | ((with_reducible refine gate_callee (f := 61) rfl ?_); refine goesL_ (some 11) rfl rfl Try.func61 (by kernel_rfl) rfl #[.slice A0 l0.length c0] rfl (by (try simp only [lm]); rfl) ?_; (with_reducible refine (e_decode.calls k _ _ l0 t341 false _ ?side1 ?side2 A3.out).mono ?_); (case side1 => repeat (exact HR0.out)); (case side2 => exact HC0.out); rintro e w6 ⟨v343, rfl, ho0, hb⟩; refine ⟨_, rfl, ?_⟩; have n0_ := Ak (Kd.R_lower ho0 (below_size (by exact HB.out))); have n1_ := Ak (below_step (by exact HB.out) hb); clear HB; have HO344 := n0_; have HB := n1_; clear n0_ n1_; (try clear hb); (try clear ho0)))
   go_ret2
   exact ⟨_, by rfl, by exact Kd.R_nil _ _ _ _ _, by exact HB.out⟩
def e_At.f (k : Nat) (l0 : List Int) (a1 : Int) : Option (Int × Int) := (e_Decode.f k l0).bind fun bt345 => (if bt345.2 = 0 then ((kit_In.f a1 0 (wrap64 ((bt345.1.length : Int) - 1))).bind fun t349 => (if t349 = true then (if 0 ≤ a1 then (if a1 < (bt345.1.length : Int) then (some (rd bt345.1 a1, 0)) else (none)) else (none)) else (some (0, 1)))) else (some (0, bt345.2)))
theorem e_At.mono : ∀ a0 a1 k, LeO (e_At.f k a0 a1) (e_At.f (k + 1) a0 a1) := by
 intro a0 a1 k
 unfold e_At.f
 repeat' first
  | (with_reducible exact e_Decode.mono _ _)
  | (with_reducible exact LeO.refl _)
  | (with_reducible refine LeO.bind ?_ (fun _ => ?_))
set_option maxHeartbeats 8000000 in
set_option maxRecDepth 100000 in
theorem e_At.calls (k : Nat) (A0 : Option Addr) (c0 : Nat) (l0 : List Int) (a1 : Int) (r1 : Int) (r2 : Int) (w : World) (hr0 : Kd.C (Kd.int .u8) w A0 l0.length l0) (hc0 : l0.length ≤ c0) (h : e_At.f k l0 a1 = some (r1, r2)) :
 Calls Try.prog 26 #[.slice A0 l0.length c0, .int .i64 a1] w fun e w' => e = .returned (.tuple #[.int .i64 r1, .int .i64 r2]) ∧ Below w.heap.size w w' := by
 have HR0 := Ak hr0
 have HC0 := Ak hc0
 clear hr0 hc0
 have HB := Ak (Below.refl w.heap.size w)
 have H : ((e_Decode.f k l0).bind fun bt345 => (if bt345.2 = 0 then ((kit_In.f a1 0 (wrap64 ((bt345.1.length : Int) - 1))).bind fun t349 => (if t349 = true then (if 0 ≤ a1 then (if a1 < (bt345.1.length : Int) then (some (rd bt345.1 a1, 0)) else (none)) else (none)) else (some (0, 1)))) else (some (0, bt345.2)))) = some (r1, r2) := h
 clear h
 replace H := Option.bind_eq_some_iff.mp H
 obtain ⟨⟨t345, t346⟩, A30, H⟩ := H
 replace H : (if t346 = 0 then ((kit_In.f a1 0 (wrap64 ((t345.length : Int) - 1))).bind fun t349 => (if t349 = true then (if 0 ≤ a1 then (if a1 < (t345.length : Int) then (some (rd t345 a1, 0)) else (none)) else (none)) else (some (0, 1)))) else (some (0, t346))) = some (r1, r2) := H
 have A3 := Ak A30
 clear A30
 by_cases c4 : t346 = 0
 ·rw [if_pos c4] at H
  have c4b0 : (t346 == 0) = true := beq_iff_eq.mpr c4
  have c4b1 : (t346 != 0) = false := bne_eq_false_iff_eq.mpr c4
  clear c4
  replace H := Option.bind_eq_some_iff.mp H
  obtain ⟨t349, A50, H⟩ := H
  replace H : (if t349 = true then (if 0 ≤ a1 then (if a1 < (t345.length : Int) then (some (rd t345 a1, 0)) else (none)) else (none)) else (some (0, 1))) = some (r1, r2) := H
  have A5 := Ak A50
  clear A50
  by_cases c6 : t349 = true
  ·subst c6
   replace H : (if 0 ≤ a1 then (if a1 < (t345.length : Int) then (some (rd t345 a1, 0)) else (none)) else (none)) = some (r1, r2) := by rw [if_pos rfl] at H; exact H
   by_cases c7 : 0 ≤ a1
   ·rw [if_pos c7] at H
    have c7b0 : decide (0 ≤ a1) = true := decide_eq_true c7
    clear c7
    by_cases c8 : a1 < (t345.length : Int)
    ·rw [if_pos c8] at H
     have c8b0 : decide (a1 < (t345.length : Int)) = true := decide_eq_true c8
     clear c8
     simp only [Option.some.injEq, Prod.mk.injEq] at H
     obtain ⟨rfl, rfl⟩ := H
     go_enter Try.func26, Try.ntmps26
     go_wp2_with (first | ((with_reducible refine gate_callee (f := 21) rfl ?_); refine goesL_ (some 10) rfl rfl Try.func21 (by kernel_rfl) rfl #[.slice A0 l0.length c0] rfl (by (try simp only [lm]); rfl) ?_; (with_reducible refine (e_Decode.calls k _ _ l0 t345 t346 _ ?side1 ?side2 A3.out).mono ?_); (case side1 => repeat (exact HR0.out)); (case side2 => exact HC0.out); rintro e w9 ⟨v347, rfl, ho0, hb⟩; refine ⟨_, rfl, ?_⟩; have n0_ := Ak (Kd.R_lower ho0 (below_size (by exact HB.out))); have n1_ := Ak (below_step (by exact HB.out) hb); clear HB; have HO348 := n0_; have HB := n1_; clear n0_ n1_; (try clear hb); (try clear ho0); obtain ⟨Ao10, co10, eo10⟩ := Kd.R_slice HO348.out; subst eo10) | ((with_reducible refine gate_callee (f := 52) rfl ?_); refine goesL_ (some 20) rfl rfl Try.func52 (by kernel_rfl) rfl #[.int .i64 a1, .int .i64 0, .int .i64 (wrap64 ((t345.length : Int) - 1))] rfl (by (try simp only [lm]); rfl) ?_; (with_reducible refine (kit_In.calls a1 0 (wrap64 ((t345.length : Int) - 1)) true _ A5.out).mono ?_); rintro e w' ⟨rfl, ⟨nd, rfl⟩⟩; refine ⟨_, rfl, ?_⟩; have p350 : 0 ≤ (a1 : Int) := of_decide_eq_true (by (with_reducible assumption)); have q350 : a1 < (t345.length : Int) := of_decide_eq_true (by (with_reducible assumption)); obtain ⟨ad350, e350, hx350_0⟩ := Kd.at_int (Kd.R_reads' HO348.out).2.2 a1 p350 q350; cases e350; replace p350 := eq_true p350; replace q350 := eq_true q350))
     go_ret2
     exact ⟨by rfl, by repeat ((with_reducible first | exact HB.out | apply pw_below_drewN))⟩
    ·rw [if_neg c8] at H
     exact absurd H (by simp)
   ·rw [if_neg c7] at H
    exact absurd H (by simp)
  ·replace c6 := Bool.eq_false_iff.mpr c6
   subst c6
   replace H : (some (0, 1)) = some (r1, r2) := by rw [if_neg (show ¬ (false = true) by decide)] at H; exact H
   simp only [Option.some.injEq, Prod.mk.injEq] at H
   obtain ⟨rfl, rfl⟩ := H
   go_enter Try.func26, Try.ntmps26
   go_wp2_with (first | ((with_reducible refine gate_callee (f := 21) rfl ?_); refine goesL_ (some 10) rfl rfl Try.func21 (by kernel_rfl) rfl #[.slice A0 l0.length c0] rfl (by (try simp only [lm]); rfl) ?_; (with_reducible refine (e_Decode.calls k _ _ l0 t345 t346 _ ?side1 ?side2 A3.out).mono ?_); (case side1 => repeat (exact HR0.out)); (case side2 => exact HC0.out); rintro e w11 ⟨v347, rfl, ho0, hb⟩; refine ⟨_, rfl, ?_⟩; have n0_ := Ak (Kd.R_lower ho0 (below_size (by exact HB.out))); have n1_ := Ak (below_step (by exact HB.out) hb); clear HB; have HO348 := n0_; have HB := n1_; clear n0_ n1_; (try clear hb); (try clear ho0); obtain ⟨Ao12, co12, eo12⟩ := Kd.R_slice HO348.out; subst eo12) | ((with_reducible refine gate_callee (f := 52) rfl ?_); refine goesL_ (some 20) rfl rfl Try.func52 (by kernel_rfl) rfl #[.int .i64 a1, .int .i64 0, .int .i64 (wrap64 ((t345.length : Int) - 1))] rfl (by (try simp only [lm]); rfl) ?_; (with_reducible refine (kit_In.calls a1 0 (wrap64 ((t345.length : Int) - 1)) false _ A5.out).mono ?_); rintro e w' ⟨rfl, ⟨nd, rfl⟩⟩; refine ⟨_, rfl, ?_⟩))
   go_ret2
   exact ⟨by rfl, by repeat ((with_reducible first | exact HB.out | apply pw_below_drewN))⟩
 ·rw [if_neg c4] at H
  have c4b0 : (t346 == 0) = false := beq_eq_false_iff_ne.mpr c4
  have c4b1 : (t346 != 0) = true := bne_iff_ne.mpr c4
  simp only [Option.some.injEq, Prod.mk.injEq] at H
  obtain ⟨rfl, rfl⟩ := H
  go_enter Try.func26, Try.ntmps26
  go_wp2_with (first | ((with_reducible refine gate_callee (f := 21) rfl ?_); refine goesL_ (some 10) rfl rfl Try.func21 (by kernel_rfl) rfl #[.slice A0 l0.length c0] rfl (by (try simp only [lm]); rfl) ?_; (with_reducible refine (e_Decode.calls k _ _ l0 t345 t346 _ ?side1 ?side2 A3.out).mono ?_); (case side1 => repeat (exact HR0.out)); (case side2 => exact HC0.out); rintro e w13 ⟨v347, rfl, ho0, hb⟩; refine ⟨_, rfl, ?_⟩; have n0_ := Ak (Kd.R_lower ho0 (below_size (by exact HB.out))); have n1_ := Ak (below_step (by exact HB.out) hb); clear HB; have HO348 := n0_; have HB := n1_; clear n0_ n1_; (try clear hb); (try clear ho0)))
  go_ret2
  exact ⟨by rfl, by exact HB.out⟩
def e_Where.l0 : Nat → Int → Int → List Int → List Int → Int → Int → Option (List Int × Int)
 | 0, _, _, _, _, _, _ => none
 | k + 1, x1, x2, x8, x10, x25, x26 => if x26 < x25 then (if 0 ≤ x26 then (if x26 < (x8.length : Int) then ((kit_In.f (rd x8 x26) x1 x2).bind fun t356 => (if t356 = true then (if x10.length < 17592186044416 then (e_Where.l0 k x1 x2 x8 (x10 ++ [x26]) x25 (wrap64 (x26 + 1))) else (none)) else (e_Where.l0 k x1 x2 x8 x10 x25 (wrap64 (x26 + 1))))) else (none)) else (none)) else (some (x10, 0))
def e_Where.f (k : Nat) (l0 : List Int) (a1 : Int) (a2 : Int) : Option (List Int × Int) := (e_Decode.f k l0).bind fun bt351 => (if bt351.2 = 0 then (if a1 > a2 then (some (([] : List Int), 8)) else (e_Where.l0 k a1 a2 bt351.1 ([] : List Int) (bt351.1.length : Int) 0)) else (some (([] : List Int), bt351.2)))
theorem e_Where.mono_l : ∀ k, (∀ y0 y1 y2 y3 y4 y5, LeO (e_Where.l0 k y0 y1 y2 y3 y4 y5) (e_Where.l0 (k + 1) y0 y1 y2 y3 y4 y5))
 | 0 => fun _ _ _ _ _ _ r h => by simp [e_Where.l0] at h
 | k + 1 => by
  have ih0 := e_Where.mono_l k
  ·intro y0 y1 y2 y3 y4 y5
   unfold e_Where.l0
   repeat' first
   | (with_reducible exact ih0 _ _ _ _ _ _)
   | (with_reducible exact LeO.refl _)
   | (with_reducible refine LeO.ite ?_ ?_)
   | (with_reducible refine LeO.bind ?_ (fun _ => ?_))
theorem e_Where.mono : ∀ a0 a1 a2 k, LeO (e_Where.f k a0 a1 a2) (e_Where.f (k + 1) a0 a1 a2) := by
 intro a0 a1 a2 k
 have ih0 := e_Where.mono_l k
 unfold e_Where.f
 repeat' first
  | (with_reducible exact ih0 _ _ _ _ _ _)
  | (with_reducible exact e_Decode.mono _ _)
  | (with_reducible exact LeO.refl _)
  | (with_reducible refine LeO.ite ?_ ?_)
  | (with_reducible refine LeO.bind ?_ (fun _ => ?_))
set_option maxHeartbeats 8000000 in
set_option maxRecDepth 100000 in
theorem e_Where.calls (k : Nat) (A0 : Option Addr) (c0 : Nat) (l0 : List Int) (a1 : Int) (a2 : Int) (r1 : List Int) (r2 : Int) (w : World) (hr0 : Kd.C (Kd.int .u8) w A0 l0.length l0) (hc0 : l0.length ≤ c0) (h : e_Where.f k l0 a1 a2 = some (r1, r2)) :
 Calls Try.prog 27 #[.slice A0 l0.length c0, .int .i64 a1, .int .i64 a2] w fun e w' => ∃ v0_ : Value, e = .returned (.tuple #[v0_, .int .i64 r2]) ∧ Kd.R (Kd.int .i64) 3 w' w.heap.size (fun _ => True) v0_ r1 ∧ Below w.heap.size w w' := by
 have HR0 := Ak hr0
 have HC0 := Ak hc0
 clear hr0 hc0
 have HB := Ak (Below.refl w.heap.size w)
 have H : ((e_Decode.f k l0).bind fun bt351 => (if bt351.2 = 0 then (if a1 > a2 then (some (([] : List Int), 8)) else (e_Where.l0 k a1 a2 bt351.1 ([] : List Int) (bt351.1.length : Int) 0)) else (some (([] : List Int), bt351.2)))) = some (r1, r2) := h
 clear h
 replace H := Option.bind_eq_some_iff.mp H
 obtain ⟨⟨t351, t352⟩, A40, H⟩ := H
 replace H : (if t352 = 0 then (if a1 > a2 then (some (([] : List Int), 8)) else (e_Where.l0 k a1 a2 t351 ([] : List Int) (t351.length : Int) 0)) else (some (([] : List Int), t352))) = some (r1, r2) := H
 have A4 := Ak A40
 clear A40
 by_cases c5 : t352 = 0
 ·rw [if_pos c5] at H
  have c5b0 : (t352 == 0) = true := beq_iff_eq.mpr c5
  have c5b1 : (t352 != 0) = false := bne_eq_false_iff_eq.mpr c5
  clear c5
  by_cases c6 : a1 > a2
  ·rw [if_pos c6] at H
   have c6b0 : decide (a2 < a1) = true := decide_eq_true c6
   clear c6
   simp only [Option.some.injEq, Prod.mk.injEq] at H
   obtain ⟨rfl, rfl⟩ := H
   go_enter Try.func27, Try.ntmps27
   go_wp2_with (first | ((with_reducible refine gate_callee (f := 21) rfl ?_); refine goesL_ (some 15) rfl rfl Try.func21 (by kernel_rfl) rfl #[.slice A0 l0.length c0] rfl (by (try simp only [lm]); rfl) ?_; (with_reducible refine (e_Decode.calls k _ _ l0 t351 t352 _ ?side1 ?side2 A4.out).mono ?_); (case side1 => repeat (exact HR0.out)); (case side2 => exact HC0.out); rintro e w7 ⟨v353, rfl, ho0, hb⟩; refine ⟨_, rfl, ?_⟩; have n0_ := Ak (Kd.R_lower ho0 (below_size (by exact HB.out))); have n1_ := Ak (below_step (by exact HB.out) hb); clear HB; have HO354 := n0_; have HB := n1_; clear n0_ n1_; (try clear hb); (try clear ho0)))
   go_ret2
   exact ⟨_, by rfl, by exact Kd.R_nil _ _ _ _ _, by exact HB.out⟩
  ·rw [if_neg c6] at H
   have c6b0 : decide (a2 < a1) = false := decide_eq_false c6
   clear c6
   have H' := Ak H
   clear H
   go_enter Try.func27, Try.ntmps27
   go_wp2_with (first | ((with_reducible refine gate_callee (f := 21) rfl ?_); refine goesL_ (some 15) rfl rfl Try.func21 (by kernel_rfl) rfl #[.slice A0 l0.length c0] rfl (by (try simp only [lm]); rfl) ?_; (with_reducible refine (e_Decode.calls k _ _ l0 t351 t352 _ ?side1 ?side2 A4.out).mono ?_); (case side1 => repeat (exact HR0.out)); (case side2 => exact HC0.out); rintro e w8 ⟨v353, rfl, ho0, hb⟩; refine ⟨_, rfl, ?_⟩; have n0_ := Ak (Kd.R_lower ho0 (below_size (by exact HB.out))); have n1_ := Ak (below_step (by exact HB.out) hb); clear HB; have HO354 := n0_; have HB := n1_; clear n0_ n1_; (try clear hb); (try clear ho0); obtain ⟨Ao9, co9, eo9⟩ := Kd.R_slice HO354.out; subst eo9))
   go_loopg [10, 26] k (fun kq v10 v26 w' => ∃ (x10_1 : List Int) (x26_1 : Int), v26 = .int .i64 x26_1 ∧ Aside0 (e_Where.l0 kq a1 a2 t351 x10_1 (t351.length : Int) x26_1 = some (r1, r2)) ∧ Aside0 (kq ≤ k) ∧ Aside0 (Kd.R (Kd.int .i64) 3 w' w.heap.size (fun k_ => some k_ ≠ (v10 : Value).ownBlock) (.slice Ao9 t351.length co9) t351) ∧ Aside0 (Kd.R (Kd.int .i64) 3 w' w.heap.size (fun k_ => some k_ ≠ ((.slice Ao9 t351.length co9) : Value).ownBlock) v10 x10_1) ∧ Aside0 (Below w.heap.size w w'))
   case atStart => exact ⟨(([] : List Int)), (0), (by rfl), H', ⟨Nat.le_refl _⟩, ⟨by exact Kd.R_mono HO354.out (fun _ hk => (by simp [Value.ownBlock]))⟩, ⟨by exact Kd.R_nil _ _ _ _ _⟩, ⟨by exact HB.out⟩⟩
   case round =>
    clear H'
    try clear c5b0
    try clear c5b1
    try clear c6b0
    obtain ⟨x10_1, x26_1, rfl, HA, HK1, HO_8, HO_10, HB⟩ := hrel
    cases gk with
    | zero => exact absurd HA.out (by simp [e_Where.l0])
    | succ k1 =>
     have H := HA.out
     clear HA
     simp only [e_Where.l0] at H
     by_cases c10 : x26_1 < (t351.length : Int)
     ·rw [if_pos c10] at H
      have c10b0 : decide (x26_1 < (t351.length : Int)) = true := decide_eq_true c10
      clear c10
      by_cases c11 : 0 ≤ x26_1
      ·rw [if_pos c11] at H
       have c11b0 : decide (0 ≤ x26_1) = true := decide_eq_true c11
       clear c11
       by_cases c12 : x26_1 < (t351.length : Int)
       ·rw [if_pos c12] at H
        have c12b0 : decide (x26_1 < (t351.length : Int)) = true := decide_eq_true c12
        clear c12
        replace H := Option.bind_eq_some_iff.mp H
        obtain ⟨t356, A130, H⟩ := H
        replace H : (if t356 = true then (if x10_1.length < 17592186044416 then (e_Where.l0 k1 a1 a2 t351 (x10_1 ++ [x26_1]) (t351.length : Int) (wrap64 (x26_1 + 1))) else (none)) else (e_Where.l0 k1 a1 a2 t351 x10_1 (t351.length : Int) (wrap64 (x26_1 + 1)))) = some (r1, r2) := H
        have A13 := Ak A130
        clear A130
        by_cases c14 : t356 = true
        ·subst c14
         replace H : (if x10_1.length < 17592186044416 then (e_Where.l0 k1 a1 a2 t351 (x10_1 ++ [x26_1]) (t351.length : Int) (wrap64 (x26_1 + 1))) else (none)) = some (r1, r2) := by rw [if_pos rfl] at H; exact H
         by_cases c15 : x10_1.length < 17592186044416
         ·rw [if_pos c15] at H
          have LMc15 := Ak c15
          clear c15
          obtain ⟨y357, hy357⟩ : ∃ y_ : List Int, y_ = (x10_1 ++ [x26_1]) := ⟨_, rfl⟩
          replace H : (e_Where.l0 k1 a1 a2 t351 y357 (t351.length : Int) (wrap64 (x26_1 + 1))) = some (r1, r2) := by (rw [hy357]; with_reducible exact H)
          have Ny357 := Ak hy357
          clear hy357
          have H' := Ak H
          clear H
          have p355 : 0 ≤ (x26_1 : Int) := of_decide_eq_true (by (with_reducible assumption))
          have q355 : x26_1 < (t351.length : Int) := of_decide_eq_true (by (with_reducible assumption))
          obtain ⟨ad355, e355, hx355_0⟩ := Kd.at_int (Kd.R_reads' HO_8.out).2.2 x26_1 p355 q355
          cases e355
          replace p355 := eq_true p355
          replace q355 := eq_true q355
          go_wp2_with (first | ((with_reducible refine gate_callee (f := 52) rfl ?_); refine goesL_ (some 34) rfl rfl Try.func52 (by kernel_rfl) rfl #[.int .i64 (rd t351 x26_1), .int .i64 a1, .int .i64 a2] rfl (by (try simp only [lm]); rfl) ?_; (with_reducible refine (kit_In.calls (rd t351 x26_1) a1 a2 true _ A13.out).mono ?_); rintro e w' ⟨rfl, ⟨nd, rfl⟩⟩; refine ⟨_, rfl, ?_⟩) | ((with_reducible refine gate_builtin (b := .append) (xs := #[.tmp 35, .tmp 37]) rfl ?_); at_builtin; refine Kd.R_append (Kd.int .i64) (w0 := w) w.heap.size rfl (.tmp 35) (.tmp 37) 22 3 (.int .i64 0) 8 rfl Try.underlying22 info3 rfl (by decide) (by omega) u10 x10_1 x26_1 [.int .i64 x26_1] (fun k_ => some k_ ≠ (.slice (some ad355) t351.length co9 : Value).ownBlock) (fun _ => False) rfl rfl ?aP (fun _ hk => hk.elim) ?aF ?aO ?aB ?aS ?aL ?_; (case aP => exact rfl); (case aB => exact (by repeat ((with_reducible first | exact HB.out | apply pw_below_drewN)))); (case aF => exact (fun k_ hk => Kd.fresh' (Kd.R_lt (by (with_reducible repeat (apply Kd.R_drewN)); exact HO_8.out)) k_ hk)); (case aO => exact (by (with_reducible repeat (apply Kd.R_drewN)); exact HO_10.out)); (case aS => exact (below_size (by repeat ((with_reducible first | exact HB.out | apply pw_below_drewN))))); (case aL => have := LMc15.out; omega); intro v358 w16 ho hb hg hat; rw [← Ny357.out] at ho; have n0_ := Ak (Kd.R_after (ok := (fun _ => True)) (by (with_reducible repeat (apply Kd.R_drewN)); exact Kd.R_mono HO_8.out (fun _ hk => ⟨trivial, hk⟩)) hg hat); have n1_ := Ak (hb); have n2_ := Ak (ho); clear HO_8 HB HO_10; have HO_8 := n0_; have HB := n1_; have HO359 := n2_; clear n0_ n1_ n2_ ho hb hg hat))
          go_roundg k1
          case measure => have := HK1.out; omega
          case rel => exact ⟨(y357), (wrap64 (x26_1 + 1)), (by rfl), H', ⟨by have := HK1.out; omega⟩, ⟨by exact Kd.R_mono HO_8.out (fun _ hk => hk.2)⟩, ⟨by exact HO359.out⟩, ⟨by exact HB.out⟩⟩
         ·rw [if_neg c15] at H
          exact absurd H (by simp)
        ·replace c14 := Bool.eq_false_iff.mpr c14
         subst c14
         replace H : (e_Where.l0 k1 a1 a2 t351 x10_1 (t351.length : Int) (wrap64 (x26_1 + 1))) = some (r1, r2) := by rw [if_neg (show ¬ (false = true) by decide)] at H; exact H
         have H' := Ak H
         clear H
         have p355 : 0 ≤ (x26_1 : Int) := of_decide_eq_true (by (with_reducible assumption))
         have q355 : x26_1 < (t351.length : Int) := of_decide_eq_true (by (with_reducible assumption))
         obtain ⟨ad355, e355, hx355_0⟩ := Kd.at_int (Kd.R_reads' HO_8.out).2.2 x26_1 p355 q355
         cases e355
         replace p355 := eq_true p355
         replace q355 := eq_true q355
         go_wp2_with (first | ((with_reducible refine gate_callee (f := 52) rfl ?_); refine goesL_ (some 34) rfl rfl Try.func52 (by kernel_rfl) rfl #[.int .i64 (rd t351 x26_1), .int .i64 a1, .int .i64 a2] rfl (by (try simp only [lm]); rfl) ?_; (with_reducible refine (kit_In.calls (rd t351 x26_1) a1 a2 false _ A13.out).mono ?_); rintro e w' ⟨rfl, ⟨nd, rfl⟩⟩; refine ⟨_, rfl, ?_⟩))
         go_roundg k1
         case measure => have := HK1.out; omega
         case rel => exact ⟨(x10_1), (wrap64 (x26_1 + 1)), (by rfl), H', ⟨by have := HK1.out; omega⟩, ⟨by (with_reducible repeat (apply Kd.R_drewN)); exact HO_8.out⟩, ⟨by (with_reducible repeat (apply Kd.R_drewN)); exact HO_10.out⟩, ⟨by repeat ((with_reducible first | exact HB.out | apply pw_below_drewN))⟩⟩
       ·rw [if_neg c12] at H
        exact absurd H (by simp)
      ·rw [if_neg c11] at H
       exact absurd H (by simp)
     ·rw [if_neg c10] at H
      have c10b0 : decide (x26_1 < (t351.length : Int)) = false := decide_eq_false c10
      clear c10
      simp only [Option.some.injEq, Prod.mk.injEq] at H
      obtain ⟨rfl, rfl⟩ := H
      go_wp2
      go_ret2
      exact ⟨_, by rfl, by exact Kd.R_mono HO_10.out (fun _ hk => trivial), by exact HB.out⟩
 ·rw [if_neg c5] at H
  have c5b0 : (t352 == 0) = false := beq_eq_false_iff_ne.mpr c5
  have c5b1 : (t352 != 0) = true := bne_iff_ne.mpr c5
  simp only [Option.some.injEq, Prod.mk.injEq] at H
  obtain ⟨rfl, rfl⟩ := H
  go_enter Try.func27, Try.ntmps27
  go_wp2_with (first | ((with_reducible refine gate_callee (f := 21) rfl ?_); refine goesL_ (some 15) rfl rfl Try.func21 (by kernel_rfl) rfl #[.slice A0 l0.length c0] rfl (by (try simp only [lm]); rfl) ?_; (with_reducible refine (e_Decode.calls k _ _ l0 t351 t352 _ ?side1 ?side2 A4.out).mono ?_); (case side1 => repeat (exact HR0.out)); (case side2 => exact HC0.out); rintro e w17 ⟨v353, rfl, ho0, hb⟩; refine ⟨_, rfl, ?_⟩; have n0_ := Ak (Kd.R_lower ho0 (below_size (by exact HB.out))); have n1_ := Ak (below_step (by exact HB.out) hb); clear HB; have HO354 := n0_; have HB := n1_; clear n0_ n1_; (try clear hb); (try clear ho0)))
  go_ret2
  exact ⟨_, by rfl, by exact Kd.R_nil _ _ _ _ _, by exact HB.out⟩
def e_Least.j0 : Nat → List Int → Int → Bool → Option (Int × Int × Bool × Int)
 | 0, _, _, _ => none
 | k + 1, x6, x7, x19 => if x19 = true then (some (0, 0, false, x7)) else ((s_Min.f x6).bind fun t364 => ((s_Max.f x6).bind fun t365 => (some (t364, t365, true, 0))))
def e_Least.f (k : Nat) (l0 : List Int) : Option (Int × Int × Bool × Int) := (e_Decode.f k l0).bind fun bt360 => (if bt360.2 = 0 then (e_Least.j0 k bt360.1 bt360.2 ((bt360.1.length : Int) == 0)) else (e_Least.j0 k bt360.1 bt360.2 true))
theorem e_Least.mono_l : ∀ k, (∀ y0 y1 y2, LeO (e_Least.j0 k y0 y1 y2) (e_Least.j0 (k + 1) y0 y1 y2))
 | 0 => fun _ _ _ r h => by simp [e_Least.j0] at h
 | k + 1 => by
  have ih0 := e_Least.mono_l k
  ·intro y0 y1 y2
   unfold e_Least.j0
   repeat' first
   | (with_reducible exact LeO.refl _)
theorem e_Least.mono : ∀ a0 k, LeO (e_Least.f k a0) (e_Least.f (k + 1) a0) := by
 intro a0 k
 have ih0 := e_Least.mono_l k
 unfold e_Least.f
 repeat' first
  | (with_reducible exact ih0 _ _ _)
  | (with_reducible exact e_Decode.mono _ _)
  | (with_reducible refine LeO.ite ?_ ?_)
  | (with_reducible refine LeO.bind ?_ (fun _ => ?_))
set_option maxHeartbeats 8000000 in
set_option maxRecDepth 100000 in
theorem e_Least.calls (k : Nat) (A0 : Option Addr) (c0 : Nat) (l0 : List Int) (r1 : Int) (r2 : Int) (r3 : Bool) (r4 : Int) (w : World) (hr0 : Kd.C (Kd.int .u8) w A0 l0.length l0) (hc0 : l0.length ≤ c0) (h : e_Least.f k l0 = some (r1, r2, r3, r4)) :
 Calls Try.prog 29 #[.slice A0 l0.length c0] w fun e w' => e = .returned (.tuple #[.int .i64 r1, .int .i64 r2, .bool r3, .int .i64 r4]) ∧ Below w.heap.size w w' := by
 have HR0 := Ak hr0
 have HC0 := Ak hc0
 clear hr0 hc0
 have HB := Ak (Below.refl w.heap.size w)
 have H : ((e_Decode.f k l0).bind fun bt360 => (if bt360.2 = 0 then (e_Least.j0 k bt360.1 bt360.2 ((bt360.1.length : Int) == 0)) else (e_Least.j0 k bt360.1 bt360.2 true))) = some (r1, r2, r3, r4) := h
 clear h
 replace H := Option.bind_eq_some_iff.mp H
 obtain ⟨⟨t360, t361⟩, A20, H⟩ := H
 replace H : (if t361 = 0 then (e_Least.j0 k t360 t361 ((t360.length : Int) == 0)) else (e_Least.j0 k t360 t361 true)) = some (r1, r2, r3, r4) := H
 have A2 := Ak A20
 clear A20
 have HC3 := Ak H
 clear H
 go_enter Try.func29, Try.ntmps29
 go_upto_region 2 with (first | ((with_reducible refine gate_callee (f := 21) rfl ?_); refine goesL_ (some 10) rfl rfl Try.func21 (by kernel_rfl) rfl #[.slice A0 l0.length c0] rfl (by (try simp only [lm]); rfl) ?_; (with_reducible refine (e_Decode.calls k _ _ l0 t360 t361 _ ?side1 ?side2 A2.out).mono ?_); (case side1 => repeat (exact HR0.out)); (case side2 => exact HC0.out); rintro e w4 ⟨v362, rfl, ho0, hb⟩; refine ⟨_, rfl, ?_⟩; have n0_ := Ak (Kd.R_lower ho0 (below_size (by exact HB.out))); have n1_ := Ak (below_step (by exact HB.out) hb); clear HB; have HO363 := n0_; have HB := n1_; clear n0_ n1_; (try clear hb); (try clear ho0)))
 (try simp only [Act.put, List.setIfInBounds_toArray, List.set_cons_zero, List.set_cons_succ])
 go_cut [19] (fun v19 wc => ∃ (kq : Nat) (x19_2 : Bool), v19 = .bool x19_2 ∧ Aside0 (e_Least.j0 kq t360 t361 x19_2 = some (r1, r2, r3, r4)) ∧ Aside0 (kq ≤ k) ∧ Aside0 (Kd.R (Kd.int .i64) 3 wc w.heap.size (fun _ => True) v362 t360) ∧ Aside0 (Below w.heap.size w wc))
 case first =>
  have H := HC3.out
  clear HC3
  by_cases c5 : t361 = 0
  ·rw [if_pos c5] at H
   have c5b0 : (t361 == 0) = true := beq_iff_eq.mpr c5
   have c5b1 : (t361 != 0) = false := bne_eq_false_iff_eq.mpr c5
   clear c5
   (skip)
   (try rw [c5b1])
   have H' := Ak H
   clear H
   obtain ⟨Ao6, co6, eo6⟩ := Kd.R_slice HO363.out
   subst eo6
   go_wp2
   go_meet
   case rel => exact ⟨_, (((t360.length : Int) == 0)), (by rfl), H', ⟨by omega⟩, ⟨by exact HO363.out⟩, ⟨by exact HB.out⟩⟩
  ·rw [if_neg c5] at H
   have c5b0 : (t361 == 0) = false := beq_eq_false_iff_ne.mpr c5
   have c5b1 : (t361 != 0) = true := bne_iff_ne.mpr c5
   (skip)
   (try rw [c5b1])
   have H' := Ak H
   clear H
   go_wp2
   go_meet
   case rel => exact ⟨_, (true), (by rfl), H', ⟨by omega⟩, ⟨by exact HO363.out⟩, ⟨by exact HB.out⟩⟩
 case rest =>
  clear HC3
  obtain ⟨kq, x19_2, rfl, HA, HJ2, HO_6, HB⟩ := hcut
  cases kq with
  | zero => exact absurd HA.out (by simp [e_Least.j0])
  | succ kj2 =>
   have H := HA.out
   clear HA
   simp only [e_Least.j0] at H
   by_cases c7 : x19_2 = true
   ·subst c7
    replace H : (some (0, 0, false, t361)) = some (r1, r2, r3, r4) := by rw [if_pos rfl] at H; exact H
    simp only [Option.some.injEq, Prod.mk.injEq] at H
    obtain ⟨rfl, rfl, rfl, rfl⟩ := H
    go_wp2
    refine bodyPost_ret (results_list (rs := [.tmp 2, .tmp 3, .tmp 4, .tmp 5]) rfl (by simp) (.tmp (.tmp (.tmp (.tmp .nil))))) rfl ?_
    exact ⟨by rfl, by exact HB.out⟩
   ·replace c7 := Bool.eq_false_iff.mpr c7
    subst c7
    replace H : ((s_Min.f t360).bind fun t364 => ((s_Max.f t360).bind fun t365 => (some (t364, t365, true, 0)))) = some (r1, r2, r3, r4) := by rw [if_neg (show ¬ (false = true) by decide)] at H; exact H
    replace H := Option.bind_eq_some_iff.mp H
    obtain ⟨t364, A80, H⟩ := H
    replace H : ((s_Max.f t360).bind fun t365 => (some (t364, t365, true, 0))) = some (r1, r2, r3, r4) := H
    have A8 := Ak A80
    clear A80
    replace H := Option.bind_eq_some_iff.mp H
    obtain ⟨t365, A90, H⟩ := H
    replace H : (some (t364, t365, true, 0)) = some (r1, r2, r3, r4) := H
    have A9 := Ak A90
    clear A90
    simp only [Option.some.injEq, Prod.mk.injEq] at H
    obtain ⟨rfl, rfl, rfl, rfl⟩ := H
    obtain ⟨Ao10, co10, eo10⟩ := Kd.R_slice HO_6.out
    subst eo10
    go_wp2_with (first | ((with_reducible refine gate_callee (f := 30) rfl ?_); refine goesL_ (some 22) rfl rfl Try.func30 (by kernel_rfl) rfl #[.slice Ao10 t360.length co10] rfl (by (try simp only [lm]); rfl) ?_; (with_reducible refine (s_Min.calls _ _ t360 t364 _ ?side1 ?side2 A8.out).mono ?_); (case side1 => repeat (exact (Kd.R_reads' HO_6.out).2.2)); (case side2 => exact (Kd.R_reads' HO_6.out).2.1); rintro e w' ⟨rfl, ⟨nd, rfl⟩⟩; refine ⟨_, rfl, ?_⟩) | ((with_reducible refine gate_callee (f := 31) rfl ?_); refine goesL_ (some 24) rfl rfl Try.func31 (by kernel_rfl) rfl #[.slice Ao10 t360.length co10] rfl (by (try simp only [lm]); rfl) ?_; (with_reducible refine (s_Max.calls _ _ t360 t365 _ ?side1 ?side2 A9.out).mono ?_); (case side1 => repeat (exact (Kd.R_reads' HO_6.out).2.2)); (case side2 => exact (Kd.R_reads' HO_6.out).2.1); rintro e w' ⟨rfl, ⟨nd, rfl⟩⟩; refine ⟨_, rfl, ?_⟩))
    refine bodyPost_ret (results_list (rs := [.tmp 2, .tmp 3, .tmp 4, .tmp 5]) rfl (by simp) (.tmp (.tmp (.tmp (.tmp .nil))))) rfl ?_
    exact ⟨by rfl, by repeat ((with_reducible first | exact HB.out | apply pw_below_drewN))⟩
-- (written by hand)
def s_Grow.f (l0 : List Int) (a1 : Int) : Option (List Int) := if l0.length = 0 ∧ 0 ≤ a1 ∧ a1 * 8 ≤ 140737488355328 then some [] else none
theorem s_Grow.calls (A0 : Option Addr) (c0 : Nat) (l0 : List Int) (a1 : Int) (r : List Int) (w : World) (hr0 : Kd.C (Kd.int .i64) w A0 l0.length l0) (hc0 : c0 + (A0.elim 0 fun _ => 1) ≤ 0) (h : s_Grow.f l0 a1 = some r) :
 Calls Try.prog 67 #[.slice A0 l0.length c0, .int .i64 a1] w fun e w' => ∃ v0_ : Value, e = .returned (v0_) ∧ Kd.R (Kd.int .i64) 3 w' w.heap.size (fun _ => True) v0_ r ∧ Below w.heap.size w w' := by
 unfold s_Grow.f at h
 split at h
 case isFalse => cases h
 rename_i hsz
 obtain rfl := Option.some.inj h
 have hA : A0 = none := by
  cases A0 with
  | none => rfl
  | some a => simp at hc0
 subst hA
 obtain rfl : c0 = 0 := by simpa using hc0
 obtain ⟨n, rfl⟩ := Int.eq_ofNat_of_zero_le hsz.2.1
 rw [hsz.1]
 have hb : n * 8 ≤ 140737488355328 := by omega
 by_cases hn : n = 0
 ·subst hn
  refine (Any8.slices_Grow_room Try.growI none 0 0 0 w (Nat.le_refl _) (by omega) (by omega) (Nat.le_refl _)).mono ?_
  rintro e w' ⟨rfl, rfl⟩
  exact ⟨_, rfl, Kd.R_nil _ _ _ _ _, Below.refl _ _⟩
 ·obtain ⟨i0, hi, he⟩ := Option.map_eq_some_iff.1 info3
  have hz : i0.zero = some (.int .i64 0) := congrArg Prod.fst he
  have hs : i0.size = 1 := congrArg (fun p => p.2.1) he
  have hby : i0.bytes = 8 := congrArg (fun p => p.2.2) he
  refine (Any8.slices_Grow_grow Try.growI i0 (.int .i64 0) hi hz (by omega) none 0 0 n [] w (Nat.le_refl _) (by omega) (by rw [hby]; omega) (by omega) (by simp) (fun _ => rfl) (fun a ha => by cases ha)).mono ?_
  rintro e w' ⟨rfl, rfl⟩
  have hg := grownCap_ge w (0 + n) 0 3
  have hm := grownCap_le_maxLen w (0 + n) 0 3 (by simp only [maxLen]; omega)
  refine ⟨_, rfl, Kd.R_of_own (World.ownsRow_made w.drew _ _ (Nat.le_refl _) hm ?_) (fun _ _ => trivial), below_alloc (below_drew1 (Below.refl _ _)) _⟩
  have hc : (Value.int .i64 0).cells.size = 1 := rfl
  simp only [Array.size_append, List.size_toArray, size_zeroCells, hc, List.length_nil]
  show 0 + (0 + n - 0) * 1 + (grownCap w (0 + n) 0 3 - (0 + n)) * 1 = grownCap w (0 + n) 0 3 * 1
  omega
mutual
def s_Concat.l0 : Nat → List (List Int) → Int → List (List Int) → Int → Int → Option (List Int)
 | 0, _, _, _, _, _ => none
 | k + 1, x0, x3, x9, x10, x11 => if x11 < x10 then (if 0 ≤ x11 then (if x11 < (x9.length : Int) then (if (wrap64 (x3 + ((rd_L2 x9 x11).length : Int))) < 0 then (none) else (s_Concat.l0 k x0 (wrap64 (x3 + ((rd_L2 x9 x11).length : Int))) x9 x10 (wrap64 (x11 + 1)))) else (none)) else (none)) else ((s_Grow.f ([] : List Int) x3).bind fun t367 => (s_Concat.l1 k t367 x0 (x0.length : Int) 0))
def s_Concat.l1 : Nat → List Int → List (List Int) → Int → Int → Option (List Int)
 | 0, _, _, _, _ => none
 | k + 1, x6, x25, x26, x27 => if x27 < x26 then (if 0 ≤ x27 then (if x27 < (x25.length : Int) then (if x6.length + (rd_L2 x25 x27).length < 17592186044416 then (s_Concat.l1 k (x6 ++ (rd_L2 x25 x27)) x25 x26 (wrap64 (x27 + 1))) else (none)) else (none)) else (none)) else (some x6)
end
def s_Concat.f (k : Nat) (l0 : List (List Int)) : Option (List Int) := s_Concat.l0 k l0 0 l0 (l0.length : Int) 0
theorem s_Concat.mono_l : ∀ k, (∀ y0 y1 y2 y3 y4, LeO (s_Concat.l0 k y0 y1 y2 y3 y4) (s_Concat.l0 (k + 1) y0 y1 y2 y3 y4)) ∧ (∀ y0 y1 y2 y3, LeO (s_Concat.l1 k y0 y1 y2 y3) (s_Concat.l1 (k + 1) y0 y1 y2 y3))
 | 0 => ⟨fun _ _ _ _ _ r h => by simp [s_Concat.l0] at h, fun _ _ _ _ r h => by simp [s_Concat.l1] at h⟩
 | k + 1 => by
  obtain ⟨ih0, ih1⟩ := s_Concat.mono_l k
  refine ⟨?_, ?_⟩ <;> intros
  all_goals (first | unfold s_Concat.l0 | unfold s_Concat.l1)
  all_goals
   repeat' first
   | (with_reducible exact ih0 _ _ _ _ _)
   | (with_reducible exact ih1 _ _ _ _)
   | (with_reducible exact LeO.refl _)
   | (with_reducible refine LeO.ite ?_ ?_)
   | (with_reducible refine LeO.bind ?_ (fun _ => ?_))
theorem s_Concat.mono : ∀ a0 k, LeO (s_Concat.f k a0) (s_Concat.f (k + 1) a0) := by
 intro a0 k
 obtain ⟨ih0, ih1⟩ := s_Concat.mono_l k
 unfold s_Concat.f
 repeat' first
  | (with_reducible exact ih0 _ _ _ _ _)
set_option maxHeartbeats 8000000 in
set_option maxRecDepth 100000 in
theorem s_Concat.calls (k : Nat) (A0 : Option Addr) (c0 : Nat) (l0 : List (List Int)) (r : List Int) (w : World) (hr0 : Kd.C (Kd.slice 3 (Kd.int .i64)) w A0 l0.length l0) (hc0 : l0.length ≤ c0) (h : s_Concat.f k l0 = some r) :
 Calls Try.prog 34 #[.slice A0 l0.length c0] w fun e w' => ∃ v0_ : Value, e = .returned (v0_) ∧ Kd.R (Kd.int .i64) 3 w' w.heap.size (fun _ => True) v0_ r ∧ Below w.heap.size w w' := by
 have HR0 := Ak hr0
 have HC0 := Ak hc0
 clear hr0 hc0
 have HB := Ak (Below.refl w.heap.size w)
 have H : (s_Concat.l0 k l0 0 l0 (l0.length : Int) 0) = some r := h
 clear h
 have H' := Ak H
 clear H
 go_enter Try.func34, Try.ntmps34
 go_wp2
 go_loopg [3, 11] k (fun kq v3 v11 w' => ∃ (x3_1 : Int) (x11_1 : Int), v3 = .int .i64 x3_1 ∧ v11 = .int .i64 x11_1 ∧ Aside0 (s_Concat.l0 kq l0 x3_1 l0 (l0.length : Int) x11_1 = some r) ∧ Aside0 (kq ≤ k) ∧ Aside0 (Below w.heap.size w w'))
 case atStart => exact ⟨(0), (0), (by rfl), (by rfl), H', ⟨Nat.le_refl _⟩, ⟨by exact HB.out⟩⟩
 case round =>
  clear H'
  obtain ⟨x3_1, x11_1, rfl, rfl, HA, HK1, HB⟩ := hrel
  cases gk with
  | zero => exact absurd HA.out (by simp [s_Concat.l0])
  | succ k1 =>
   have H := HA.out
   clear HA
   simp only [s_Concat.l0] at H
   by_cases c2 : x11_1 < (l0.length : Int)
   ·rw [if_pos c2] at H
    have c2b0 : decide (x11_1 < (l0.length : Int)) = true := decide_eq_true c2
    clear c2
    by_cases c3 : 0 ≤ x11_1
    ·rw [if_pos c3] at H
     have c3b0 : decide (0 ≤ x11_1) = true := decide_eq_true c3
     clear c3
     by_cases c4 : x11_1 < (l0.length : Int)
     ·rw [if_pos c4] at H
      have c4b0 : decide (x11_1 < (l0.length : Int)) = true := decide_eq_true c4
      clear c4
      by_cases c5 : (wrap64 (x3_1 + ((rd_L2 l0 x11_1).length : Int))) < 0
      ·rw [if_pos c5] at H
       exact absurd H (by simp)
      ·rw [if_neg c5] at H
       have c5b0 : decide ((wrap64 (x3_1 + ((rd_L2 l0 x11_1).length : Int))) < 0) = false := decide_eq_false c5
       clear c5
       have H' := Ak H
       clear H
       have p366 : 0 ≤ (x11_1 : Int) := of_decide_eq_true (by (with_reducible assumption))
       have q366 : x11_1 < (l0.length : Int) := of_decide_eq_true (by (with_reducible assumption))
       obtain ⟨ad366, A366_0, c366_0, e366, hx366_0, hl366_0, hi366_0⟩ := at_L2 HR0.out x11_1 p366 q366
       cases e366
       replace hx366_0 := (HB.out.cell (World.block_lt_of_cell? w _ hx366_0)).trans hx366_0
       have HR366_0 := Ak hi366_0
       have HC366_0 := Ak hl366_0
       clear hi366_0 hl366_0
       replace p366 := eq_true p366
       replace q366 := eq_true q366
       go_wp2
       go_roundg k1
       case measure => have := HK1.out; omega
       case rel => exact ⟨(wrap64 (x3_1 + ((rd_L2 l0 x11_1).length : Int))), (wrap64 (x11_1 + 1)), (by rfl), (by rfl), H', ⟨by have := HK1.out; omega⟩, ⟨by exact HB.out⟩⟩
     ·rw [if_neg c4] at H
      exact absurd H (by simp)
    ·rw [if_neg c3] at H
     exact absurd H (by simp)
   ·rw [if_neg c2] at H
    have c2b0 : decide (x11_1 < (l0.length : Int)) = false := decide_eq_false c2
    clear c2
    replace H := Option.bind_eq_some_iff.mp H
    obtain ⟨t367, A60, H⟩ := H
    replace H : (s_Concat.l1 k1 t367 l0 (l0.length : Int) 0) = some r := H
    have A6 := Ak A60
    clear A60
    have H' := Ak H
    clear H
    go_wp2_with (first | ((with_reducible refine gate_callee (f := 67) rfl ?_); refine goesL_ (some 24) rfl rfl Try.func67 (by kernel_rfl) rfl #[.slice none 0 0, .int .i64 x3_1] rfl (by (try simp only [lm]); rfl) ?_; (refine (s_Grow.calls _ _ ([] : List Int) x3_1 t367 _ ?side1 ?side2 A6.out).mono ?_); (case side1 => exact Kd.C_nil _ _); (case side2 => exact Nat.le_refl _); rintro e w7 ⟨v368, rfl, ho0, hb⟩; refine ⟨_, rfl, ?_⟩; have n0_ := Ak (Kd.R_lower ho0 (below_size (by exact HB.out))); have n1_ := Ak (below_step (by exact HB.out) hb); clear HB; have HO369 := n0_; have HB := n1_; clear n0_ n1_; (try clear hb); (try clear ho0)))
    go_loopg [6, 27] k1 (fun kq v6 v27 w' => ∃ (x6_2 : List Int) (x27_2 : Int), v27 = .int .i64 x27_2 ∧ Aside0 (s_Concat.l1 kq x6_2 l0 (l0.length : Int) x27_2 = some r) ∧ Aside0 (kq ≤ k1) ∧ Aside0 (Kd.R (Kd.int .i64) 3 w' w.heap.size (fun _ => True) v6 x6_2) ∧ Aside0 (Below w.heap.size w w'))
    case atStart => exact ⟨(t367), (0), (by rfl), H', ⟨Nat.le_refl _⟩, ⟨by exact HO369.out⟩, ⟨by exact HB.out⟩⟩
    case round =>
     clear H'
     try clear c2b0
     obtain ⟨x6_2, x27_2, rfl, HA, HK2, HO_6, HB⟩ := hrel
     cases gk with
     | zero => exact absurd HA.out (by simp [s_Concat.l1])
     | succ k2 =>
      have H := HA.out
      clear HA
      simp only [s_Concat.l1] at H
      by_cases c8 : x27_2 < (l0.length : Int)
      ·rw [if_pos c8] at H
       have c8b0 : decide (x27_2 < (l0.length : Int)) = true := decide_eq_true c8
       clear c8
       by_cases c9 : 0 ≤ x27_2
       ·rw [if_pos c9] at H
        have c9b0 : decide (0 ≤ x27_2) = true := decide_eq_true c9
        clear c9
        by_cases c10 : x27_2 < (l0.length : Int)
        ·rw [if_pos c10] at H
         have c10b0 : decide (x27_2 < (l0.length : Int)) = true := decide_eq_true c10
         clear c10
         by_cases c11 : x6_2.length + (rd_L2 l0 x27_2).length < 17592186044416
         ·rw [if_pos c11] at H
          have LMc11 := Ak c11
          clear c11
          obtain ⟨y371, hy371⟩ : ∃ y_ : List Int, y_ = (x6_2 ++ (rd_L2 l0 x27_2)) := ⟨_, rfl⟩
          replace H : (s_Concat.l1 k2 y371 l0 (l0.length : Int) (wrap64 (x27_2 + 1))) = some r := by (rw [hy371]; with_reducible exact H)
          have Ny371 := Ak hy371
          clear hy371
          have H' := Ak H
          clear H
          have p370 : 0 ≤ (x27_2 : Int) := of_decide_eq_true (by (with_reducible assumption))
          have q370 : x27_2 < (l0.length : Int) := of_decide_eq_true (by (with_reducible assumption))
          obtain ⟨ad370, A370_0, c370_0, e370, hx370_0, hl370_0, hi370_0⟩ := at_L2 HR0.out x27_2 p370 q370
          cases e370
          replace hx370_0 := (HB.out.cell (World.block_lt_of_cell? w _ hx370_0)).trans hx370_0
          have HR370_0 := Ak hi370_0
          have HC370_0 := Ak hl370_0
          clear hi370_0 hl370_0
          replace p370 := eq_true p370
          replace q370 := eq_true q370
          go_wp2_with (first | ((with_reducible refine gate_builtin (b := .append) (xs := #[.tmp 31, .tmp 32]) rfl ?_); at_builtin; refine Kd.R_append_rows (Kd.int .i64) (w0 := w) w.heap.size rfl (.tmp 31) (.tmp 32) 22 3 (.int .i64 0) 8 rfl Try.underlying22 info3 rfl (by decide) (by omega) u6 x6_2 (rd_L2 l0 x27_2) _ _ _ (fun _ => True) (fun _ => False) rfl rfl ?aO ?aR (fun _ _ h => h) (fun _ h => h.elim) ?aF ?aB ?aS ?aL ?_; (case aR => repeat (exact (Kd.C_below HR370_0.out HB.out))); (case aB => exact (by exact HB.out)); (case aF => exact (fun _ _ => trivial)); (case aO => exact (by exact HO_6.out)); (case aS => exact (below_size (by exact HB.out))); (case aL => have := LMc11.out; omega); intro v372 w12 ho hb hg hat; rw [← Ny371.out] at ho; have n0_ := Ak (hb); have n1_ := Ak (ho); clear HB HO_6; have HB := n0_; have HO373 := n1_; clear n0_ n1_ ho hb hg hat))
          go_roundg k2
          case measure => have := HK1.out; have := HK2.out; omega
          case rel => exact ⟨(y371), (wrap64 (x27_2 + 1)), (by rfl), H', ⟨by have := HK1.out; have := HK2.out; omega⟩, ⟨by exact HO373.out⟩, ⟨by exact HB.out⟩⟩
         ·rw [if_neg c11] at H
          exact absurd H (by simp)
        ·rw [if_neg c10] at H
         exact absurd H (by simp)
       ·rw [if_neg c9] at H
        exact absurd H (by simp)
      ·rw [if_neg c8] at H
       have c8b0 : decide (x27_2 < (l0.length : Int)) = false := decide_eq_false c8
       clear c8
       obtain rfl := Option.some.inj H
       go_wp2
       go_ret
       exact ⟨_, by rfl, by exact HO_6.out, by exact HB.out⟩
def e_best.l0 : Nat → List Int → Int → Int → Int → Option (Int)
 | 0, _, _, _, _ => none
 | k + 1, x0, x3, x4, x5 => if x5 ≤ 5 then ((e_encode.f k x5 x0).bind fun t374 => (if x3 = 0 then (e_best.l0 k x0 x5 (t374.length : Int) (wrap64 (x5 + 1))) else (if (t374.length : Int) < x4 then (e_best.l0 k x0 x5 (t374.length : Int) (wrap64 (x5 + 1))) else (e_best.l0 k x0 x3 x4 (wrap64 (x5 + 1)))))) else (some x3)
def e_best.f (k : Nat) (l0 : List Int) : Option (Int) := e_best.l0 k l0 0 0 1
theorem e_best.mono_l : ∀ k, (∀ y0 y1 y2 y3, LeO (e_best.l0 k y0 y1 y2 y3) (e_best.l0 (k + 1) y0 y1 y2 y3))
 | 0 => fun _ _ _ _ r h => by simp [e_best.l0] at h
 | k + 1 => by
  have ih0 := e_best.mono_l k
  ·intro y0 y1 y2 y3
   unfold e_best.l0
   repeat' first
   | (with_reducible exact ih0 _ _ _ _)
   | (with_reducible exact e_encode.mono _ _ _)
   | (with_reducible exact LeO.refl _)
   | (with_reducible refine LeO.ite ?_ ?_)
   | (with_reducible refine LeO.bind ?_ (fun _ => ?_))
theorem e_best.mono : ∀ a0 k, LeO (e_best.f k a0) (e_best.f (k + 1) a0) := by
 intro a0 k
 have ih0 := e_best.mono_l k
 unfold e_best.f
 repeat' first
  | (with_reducible exact ih0 _ _ _ _)
set_option maxHeartbeats 8000000 in
set_option maxRecDepth 100000 in
theorem e_best.calls (k : Nat) (A0 : Option Addr) (c0 : Nat) (l0 : List Int) (r : Int) (w : World) (hr0 : Kd.C (Kd.int .i64) w A0 l0.length l0) (hc0 : l0.length ≤ c0) (h : e_best.f k l0 = some r) :
 Calls Try.prog 51 #[.slice A0 l0.length c0] w fun e w' => e = .returned (.int .i64 r) ∧ Below w.heap.size w w' := by
 have HR0 := Ak hr0
 have HC0 := Ak hc0
 clear hr0 hc0
 have HB := Ak (Below.refl w.heap.size w)
 have H : (e_best.l0 k l0 0 0 1) = some r := h
 clear h
 have H' := Ak H
 clear H
 go_enter Try.func51, Try.ntmps51
 go_wp2
 go_loopg [3, 4, 5] k (fun kq v3 v4 v5 w' => ∃ (x3_1 : Int) (x4_1 : Int) (x5_1 : Int), v3 = .int .i64 x3_1 ∧ v4 = .int .i64 x4_1 ∧ v5 = .int .i64 x5_1 ∧ Aside0 (e_best.l0 kq l0 x3_1 x4_1 x5_1 = some r) ∧ Aside0 (kq ≤ k) ∧ Aside0 (Below w.heap.size w w'))
 case atStart => exact ⟨(0), (0), (1), (by rfl), (by rfl), (by rfl), H', ⟨Nat.le_refl _⟩, ⟨by exact HB.out⟩⟩
 case round =>
  clear H'
  obtain ⟨x3_1, x4_1, x5_1, rfl, rfl, rfl, HA, HK1, HB⟩ := hrel
  cases gk with
  | zero => exact absurd HA.out (by simp [e_best.l0])
  | succ k1 =>
   have H := HA.out
   clear HA
   simp only [e_best.l0] at H
   by_cases c2 : x5_1 ≤ 5
   ·rw [if_pos c2] at H
    have c2b0 : decide (x5_1 ≤ 5) = true := decide_eq_true c2
    clear c2
    replace H := Option.bind_eq_some_iff.mp H
    obtain ⟨t374, A30, H⟩ := H
    replace H : (if x3_1 = 0 then (e_best.l0 k1 l0 x5_1 (t374.length : Int) (wrap64 (x5_1 + 1))) else (if (t374.length : Int) < x4_1 then (e_best.l0 k1 l0 x5_1 (t374.length : Int) (wrap64 (x5_1 + 1))) else (e_best.l0 k1 l0 x3_1 x4_1 (wrap64 (x5_1 + 1))))) = some r := H
    have A3 := Ak A30
    clear A30
    by_cases c4 : x3_1 = 0
    ·rw [if_pos c4] at H
     have c4b0 : (x3_1 == 0) = true := beq_iff_eq.mpr c4
     have c4b1 : (x3_1 != 0) = false := bne_eq_false_iff_eq.mpr c4
     clear c4
     have H' := Ak H
     clear H
     go_wp2_with (first | ((with_reducible refine gate_callee (f := 53) rfl ?_); refine goesL_ (some 13) rfl rfl Try.func53 (by kernel_rfl) rfl #[.int .i64 x5_1, .slice A0 l0.length c0] rfl (by (try simp only [lm]); rfl) ?_; (with_reducible refine (e_encode.calls k1 x5_1 _ _ l0 t374 _ ?side1 ?side2 A3.out).mono ?_); (case side1 => repeat (exact (Kd.C_below HR0.out HB.out))); (case side2 => exact HC0.out); rintro e w5 ⟨v375, rfl, ho0, hb⟩; refine ⟨_, rfl, ?_⟩; have n0_ := Ak (Kd.R_lower ho0 (below_size (by exact HB.out))); have n1_ := Ak (below_step (by exact HB.out) hb); clear HB; have HO376 := n0_; have HB := n1_; clear n0_ n1_; (try clear hb); (try clear ho0); obtain ⟨Ao6, co6, eo6⟩ := Kd.R_slice HO376.out; subst eo6))
     go_roundg k1
     case measure => have := HK1.out; omega
     case rel => exact ⟨(x5_1), ((t374.length : Int)), (wrap64 (x5_1 + 1)), (by rfl), (by rfl), (by rfl), H', ⟨by have := HK1.out; omega⟩, ⟨by exact HB.out⟩⟩
    ·rw [if_neg c4] at H
     have c4b0 : (x3_1 == 0) = false := beq_eq_false_iff_ne.mpr c4
     have c4b1 : (x3_1 != 0) = true := bne_iff_ne.mpr c4
     by_cases c7 : (t374.length : Int) < x4_1
     ·rw [if_pos c7] at H
      have c7b0 : decide ((t374.length : Int) < x4_1) = true := decide_eq_true c7
      clear c7
      have H' := Ak H
      clear H
      go_wp2_with (first | ((with_reducible refine gate_callee (f := 53) rfl ?_); refine goesL_ (some 13) rfl rfl Try.func53 (by kernel_rfl) rfl #[.int .i64 x5_1, .slice A0 l0.length c0] rfl (by (try simp only [lm]); rfl) ?_; (with_reducible refine (e_encode.calls k1 x5_1 _ _ l0 t374 _ ?side1 ?side2 A3.out).mono ?_); (case side1 => repeat (exact (Kd.C_below HR0.out HB.out))); (case side2 => exact HC0.out); rintro e w8 ⟨v375, rfl, ho0, hb⟩; refine ⟨_, rfl, ?_⟩; have n0_ := Ak (Kd.R_lower ho0 (below_size (by exact HB.out))); have n1_ := Ak (below_step (by exact HB.out) hb); clear HB; have HO376 := n0_; have HB := n1_; clear n0_ n1_; (try clear hb); (try clear ho0); obtain ⟨Ao9, co9, eo9⟩ := Kd.R_slice HO376.out; subst eo9))
      go_roundg k1
      case measure => have := HK1.out; omega
      case rel => exact ⟨(x5_1), ((t374.length : Int)), (wrap64 (x5_1 + 1)), (by rfl), (by rfl), (by rfl), H', ⟨by have := HK1.out; omega⟩, ⟨by exact HB.out⟩⟩
     ·rw [if_neg c7] at H
      have c7b0 : decide ((t374.length : Int) < x4_1) = false := decide_eq_false c7
      clear c7
      have H' := Ak H
      clear H
      go_wp2_with (first | ((with_reducible refine gate_callee (f := 53) rfl ?_); refine goesL_ (some 13) rfl rfl Try.func53 (by kernel_rfl) rfl #[.int .i64 x5_1, .slice A0 l0.length c0] rfl (by (try simp only [lm]); rfl) ?_; (with_reducible refine (e_encode.calls k1 x5_1 _ _ l0 t374 _ ?side1 ?side2 A3.out).mono ?_); (case side1 => repeat (exact (Kd.C_below HR0.out HB.out))); (case side2 => exact HC0.out); rintro e w10 ⟨v375, rfl, ho0, hb⟩; refine ⟨_, rfl, ?_⟩; have n0_ := Ak (Kd.R_lower ho0 (below_size (by exact HB.out))); have n1_ := Ak (below_step (by exact HB.out) hb); clear HB; have HO376 := n0_; have HB := n1_; clear n0_ n1_; (try clear hb); (try clear ho0); obtain ⟨Ao11, co11, eo11⟩ := Kd.R_slice HO376.out; subst eo11))
      go_roundg k1
      case measure => have := HK1.out; omega
      case rel => exact ⟨(x3_1), (x4_1), (wrap64 (x5_1 + 1)), (by rfl), (by rfl), (by rfl), H', ⟨by have := HK1.out; omega⟩, ⟨by exact HB.out⟩⟩
   ·rw [if_neg c2] at H
    have c2b0 : decide (x5_1 ≤ 5) = false := decide_eq_false c2
    clear c2
    obtain rfl := Option.some.inj H
    go_wp2
    go_ret
    exact ⟨by rfl, by exact HB.out⟩
def e_Joined.f (k : Nat) (l0 : List Int) (l1 : List Int) : Option (List Int × Int) := (e_Decode.f k l0).bind fun bt377 => (if bt377.2 = 0 then ((e_Decode.f k l1).bind fun bt381 => (if bt381.2 = 0 then (if (wrap64 ((bt377.1.length : Int) + (bt381.1.length : Int))) > 2000 then (some (([] : List Int), 2)) else ((s_Concat.f k (([bt377.1, bt381.1] : List (List Int)))).bind fun t388 => ((e_best.f k t388).bind fun t391 => ((e_encode.f k t391 t388).bind fun t392 => (some (t392, 0)))))) else (some (([] : List Int), bt381.2)))) else (some (([] : List Int), bt377.2)))
theorem e_Joined.mono : ∀ a0 a1 k, LeO (e_Joined.f k a0 a1) (e_Joined.f (k + 1) a0 a1) := by
 intro a0 a1 k
 unfold e_Joined.f
 repeat' first
  | (with_reducible exact e_Decode.mono _ _)
  | (with_reducible exact e_best.mono _ _)
  | (with_reducible exact e_encode.mono _ _ _)
  | (with_reducible exact s_Concat.mono _ _)
  | (with_reducible exact LeO.refl _)
  | (with_reducible refine LeO.ite ?_ ?_)
  | (with_reducible refine LeO.bind ?_ (fun _ => ?_))
set_option maxHeartbeats 8000000 in
set_option maxRecDepth 100000 in
theorem e_Joined.calls (k : Nat) (A0 : Option Addr) (c0 : Nat) (l0 : List Int) (A1 : Option Addr) (c1 : Nat) (l1 : List Int) (r1 : List Int) (r2 : Int) (w : World) (hr0 : Kd.C (Kd.int .u8) w A0 l0.length l0) (hc0 : l0.length ≤ c0) (hr1 : Kd.C (Kd.int .u8) w A1 l1.length l1) (hc1 : l1.length ≤ c1) (h : e_Joined.f k l0 l1 = some (r1, r2)) :
 Calls Try.prog 33 #[.slice A0 l0.length c0, .slice A1 l1.length c1] w fun e w' => ∃ v0_ : Value, e = .returned (.tuple #[v0_, .int .i64 r2]) ∧ Kd.R (Kd.int .u8) 5 w' w.heap.size (fun _ => True) v0_ r1 ∧ Below w.heap.size w w' := by
 have HR0 := Ak hr0
 have HC0 := Ak hc0
 clear hr0 hc0
 have HR1 := Ak hr1
 have HC1 := Ak hc1
 clear hr1 hc1
 have HB := Ak (Below.refl w.heap.size w)
 have H : ((e_Decode.f k l0).bind fun bt377 => (if bt377.2 = 0 then ((e_Decode.f k l1).bind fun bt381 => (if bt381.2 = 0 then (if (wrap64 ((bt377.1.length : Int) + (bt381.1.length : Int))) > 2000 then (some (([] : List Int), 2)) else ((s_Concat.f k (([bt377.1, bt381.1] : List (List Int)))).bind fun t388 => ((e_best.f k t388).bind fun t391 => ((e_encode.f k t391 t388).bind fun t392 => (some (t392, 0)))))) else (some (([] : List Int), bt381.2)))) else (some (([] : List Int), bt377.2)))) = some (r1, r2) := h
 clear h
 replace H := Option.bind_eq_some_iff.mp H
 obtain ⟨⟨t377, t378⟩, A30, H⟩ := H
 replace H : (if t378 = 0 then ((e_Decode.f k l1).bind fun bt381 => (if bt381.2 = 0 then (if (wrap64 ((t377.length : Int) + (bt381.1.length : Int))) > 2000 then (some (([] : List Int), 2)) else ((s_Concat.f k (([t377, bt381.1] : List (List Int)))).bind fun t388 => ((e_best.f k t388).bind fun t391 => ((e_encode.f k t391 t388).bind fun t392 => (some (t392, 0)))))) else (some (([] : List Int), bt381.2)))) else (some (([] : List Int), t378))) = some (r1, r2) := H
 have A3 := Ak A30
 clear A30
 by_cases c4 : t378 = 0
 ·rw [if_pos c4] at H
  have c4b0 : (t378 == 0) = true := beq_iff_eq.mpr c4
  have c4b1 : (t378 != 0) = false := bne_eq_false_iff_eq.mpr c4
  clear c4
  replace H := Option.bind_eq_some_iff.mp H
  obtain ⟨⟨t381, t382⟩, A50, H⟩ := H
  replace H : (if t382 = 0 then (if (wrap64 ((t377.length : Int) + (t381.length : Int))) > 2000 then (some (([] : List Int), 2)) else ((s_Concat.f k (([t377, t381] : List (List Int)))).bind fun t388 => ((e_best.f k t388).bind fun t391 => ((e_encode.f k t391 t388).bind fun t392 => (some (t392, 0)))))) else (some (([] : List Int), t382))) = some (r1, r2) := H
  have A5 := Ak A50
  clear A50
  by_cases c6 : t382 = 0
  ·rw [if_pos c6] at H
   have c6b0 : (t382 == 0) = true := beq_iff_eq.mpr c6
   have c6b1 : (t382 != 0) = false := bne_eq_false_iff_eq.mpr c6
   clear c6
   by_cases c7 : (wrap64 ((t377.length : Int) + (t381.length : Int))) > 2000
   ·rw [if_pos c7] at H
    have c7b0 : decide (2000 < (wrap64 ((t377.length : Int) + (t381.length : Int)))) = true := decide_eq_true c7
    clear c7
    simp only [Option.some.injEq, Prod.mk.injEq] at H
    obtain ⟨rfl, rfl⟩ := H
    go_enter Try.func33, Try.ntmps33
    go_wp2_with (first | ((with_reducible refine gate_callee (f := 21) rfl ?_); refine goesL_ (some 12) rfl rfl Try.func21 (by kernel_rfl) rfl #[.slice A0 l0.length c0] rfl (by (try simp only [lm]); rfl) ?_; (with_reducible refine (e_Decode.calls k _ _ l0 t377 t378 _ ?side1 ?side2 A3.out).mono ?_); (case side1 => repeat (exact HR0.out)); (case side2 => exact HC0.out); rintro e w8 ⟨v379, rfl, ho0, hb⟩; refine ⟨_, rfl, ?_⟩; have n0_ := Ak (Kd.R_lower ho0 (below_size (by exact HB.out))); have n1_ := Ak (below_step (by exact HB.out) hb); clear HB; have HO380 := n0_; have HB := n1_; clear n0_ n1_; (try clear hb); (try clear ho0)) | ((with_reducible refine gate_callee (f := 21) rfl ?_); refine goesL_ (some 20) rfl rfl Try.func21 (by kernel_rfl) rfl #[.slice A1 l1.length c1] rfl (by (try simp only [lm]); rfl) ?_; (with_reducible refine (e_Decode.calls k _ _ l1 t381 t382 _ ?side1 ?side2 A5.out).mono ?_); (case side1 => repeat (exact (Kd.C_below HR1.out HB.out))); (case side2 => exact HC1.out); rintro e w9 ⟨v383, rfl, ho0, hb⟩; refine ⟨_, rfl, ?_⟩; have n0_ := Ak (Kd.R_elder' (by exact HO380.out) (Kd.R_base ho0) hb); have n1_ := Ak (Kd.R_lower (Kd.R_new' ho0 (Kd.R_lt (by exact HO380.out))) (below_size (by exact HB.out))); have n2_ := Ak (below_step (by exact HB.out) hb); clear HO380 HB; have HO380 := n0_; have HO384 := n1_; have HB := n2_; clear n0_ n1_ n2_; (try clear hb); (try clear ho0); obtain ⟨Ao10, co10, eo10⟩ := Kd.R_slice HO380.out; subst eo10; obtain ⟨Ao11, co11, eo11⟩ := Kd.R_slice HO384.out; subst eo11))
    go_ret2
    exact ⟨_, by rfl, by exact Kd.R_nil _ _ _ _ _, by exact HB.out⟩
   ·rw [if_neg c7] at H
    have c7b0 : decide (2000 < (wrap64 ((t377.length : Int) + (t381.length : Int)))) = false := decide_eq_false c7
    clear c7
    obtain ⟨y385, hy385⟩ : ∃ y_ : List (List Int), y_ = (([t377, t381] : List (List Int))) := ⟨_, rfl⟩
    replace H : ((s_Concat.f k y385).bind fun t388 => ((e_best.f k t388).bind fun t391 => ((e_encode.f k t391 t388).bind fun t392 => (some (t392, 0))))) = some (r1, r2) := by (rw [hy385]; with_reducible exact H)
    have Ny385 := Ak hy385
    clear hy385
    replace H := Option.bind_eq_some_iff.mp H
    obtain ⟨t388, A120, H⟩ := H
    replace H : ((e_best.f k t388).bind fun t391 => ((e_encode.f k t391 t388).bind fun t392 => (some (t392, 0)))) = some (r1, r2) := H
    have A12 := Ak A120
    clear A120
    replace H := Option.bind_eq_some_iff.mp H
    obtain ⟨t391, A130, H⟩ := H
    replace H : ((e_encode.f k t391 t388).bind fun t392 => (some (t392, 0))) = some (r1, r2) := H
    have A13 := Ak A130
    clear A130
    replace H := Option.bind_eq_some_iff.mp H
    obtain ⟨t392, A140, H⟩ := H
    replace H : (some (t392, 0)) = some (r1, r2) := H
    have A14 := Ak A140
    clear A140
    simp only [Option.some.injEq, Prod.mk.injEq] at H
    obtain ⟨rfl, rfl⟩ := H
    go_enter Try.func33, Try.ntmps33
    go_wp2_with (first | ((with_reducible refine gate_callee (f := 21) rfl ?_); refine goesL_ (some 12) rfl rfl Try.func21 (by kernel_rfl) rfl #[.slice A0 l0.length c0] rfl (by (try simp only [lm]); rfl) ?_; (with_reducible refine (e_Decode.calls k _ _ l0 t377 t378 _ ?side1 ?side2 A3.out).mono ?_); (case side1 => repeat (exact HR0.out)); (case side2 => exact HC0.out); rintro e w15 ⟨v379, rfl, ho0, hb⟩; refine ⟨_, rfl, ?_⟩; have n0_ := Ak (Kd.R_lower ho0 (below_size (by exact HB.out))); have n1_ := Ak (below_step (by exact HB.out) hb); clear HB; have HO380 := n0_; have HB := n1_; clear n0_ n1_; (try clear hb); (try clear ho0)) | ((with_reducible refine gate_callee (f := 21) rfl ?_); refine goesL_ (some 20) rfl rfl Try.func21 (by kernel_rfl) rfl #[.slice A1 l1.length c1] rfl (by (try simp only [lm]); rfl) ?_; (with_reducible refine (e_Decode.calls k _ _ l1 t381 t382 _ ?side1 ?side2 A5.out).mono ?_); (case side1 => repeat (exact (Kd.C_below HR1.out HB.out))); (case side2 => exact HC1.out); rintro e w16 ⟨v383, rfl, ho0, hb⟩; refine ⟨_, rfl, ?_⟩; have n0_ := Ak (Kd.R_elder' (by exact HO380.out) (Kd.R_base ho0) hb); have n1_ := Ak (Kd.R_lower (Kd.R_new' ho0 (Kd.R_lt (by exact HO380.out))) (below_size (by exact HB.out))); have n2_ := Ak (below_step (by exact HB.out) hb); clear HO380 HB; have HO380 := n0_; have HO384 := n1_; have HB := n2_; clear n0_ n1_ n2_; (try clear hb); (try clear ho0); obtain ⟨Ao17, co17, eo17⟩ := Kd.R_slice HO380.out; subst eo17; obtain ⟨Ao18, co18, eo18⟩ := Kd.R_slice HO384.out; subst eo18) | ((with_reducible refine gate_dst (N := 34) rfl ?_); refine Kd.N_lit (Kd.slice 3 (Kd.int .i64)) _ 22 ?hg (N' := 34) ?hd (xs := ([t377, t381] : List (List Int))) (inner := [.slice Ao17 t377.length co17, .slice Ao18 t381.length co18]) (ok := (fun _ => True)) (okp := (fun _ => True)) ?hr ?hp (fun _ hk => hk) ((show ∀ k_, w16.heap.size ≤ k_ → (fun _ => True) k_ from fun k_ hk => trivial) _ (Nat.le_refl _)) (Below.refl _ _) (Nat.le_refl _) (by simp) ?_; (case hd => rfl); (case hg => rfl); (case hr => (go_simp; done)); (case hp => exact (Reps.one (show Kd.FK (Kd.slice 3 (Kd.int .i64)) _ _ t377 [.slice Ao17 t377.length co17] from (Kd.FK_slice_mk (Kd.R_reads' (Kd.R_mono (ok' := (fun _ => True)) (HO380.out) (fun k_ hk => trivial))).2.1 (Kd.R_F (Kd.R_mono (ok' := (fun _ => True)) (HO380.out) (fun k_ hk => trivial))))) (Reps.one (show Kd.FK (Kd.slice 3 (Kd.int .i64)) _ _ t381 [.slice Ao18 t381.length co18] from (Kd.FK_slice_mk (Kd.R_reads' (Kd.R_mono (ok' := (fun _ => True)) (HO384.out) (fun k_ hk => trivial))).2.1 (Kd.R_F (Kd.R_mono (ok' := (fun _ => True)) (HO384.out) (fun k_ hk => trivial))))) (Reps.none _ _)))); intro v386 w19 ho20 hb hg_ hnew_; clear hg_ hnew_; (rw [← Ny385.out] at ho20); have n0_ := Ak (Kd.N_lower ho20 (below_size (by exact HB.out))); have n1_ := Ak (below_step (by exact HB.out) hb); clear HB HO380 HO384; have HO387 := n0_; have HB := n1_; clear n0_ n1_ hb ho20; obtain ⟨Ao21, co21, eo21⟩ := Kd.N_slice HO387.out; subst eo21) | ((with_reducible refine gate_callee (f := 34) rfl ?_); refine goesL_ (some 35) rfl rfl Try.func34 (by kernel_rfl) rfl #[.slice Ao21 y385.length co21] rfl (by (try simp only [lm]); rfl) ?_; (with_reducible refine (s_Concat.calls k _ _ y385 t388 _ ?side1 ?side2 A12.out).mono ?_); (case side1 => repeat (exact (Kd.N_reads' HO387.out).2.2)); (case side2 => exact (Kd.N_reads' HO387.out).2.1); rintro e w22 ⟨v389, rfl, ho0, hb⟩; refine ⟨_, rfl, ?_⟩; have n0_ := Ak (Kd.N_elder' (by exact HO387.out) (Kd.R_base ho0) hb); have n1_ := Ak (Kd.R_lower ho0 (below_size (by exact HB.out))); have n2_ := Ak (below_step (by exact HB.out) hb); clear HO387 HB; have HO387 := n0_; have HO390 := n1_; have HB := n2_; clear n0_ n1_ n2_; (try clear hb); (try clear ho0); obtain ⟨Ao23, co23, eo23⟩ := Kd.R_slice HO390.out; subst eo23) | ((with_reducible refine gate_callee (f := 51) rfl ?_); refine goesL_ (some 37) rfl rfl Try.func51 (by kernel_rfl) rfl #[.slice Ao23 t388.length co23] rfl (by (try simp only [lm]); rfl) ?_; (with_reducible refine (e_best.calls k _ _ t388 t391 _ ?side1 ?side2 A13.out).mono ?_); (case side1 => repeat (exact (Kd.R_reads' HO390.out).2.2)); (case side2 => exact (Kd.R_reads' HO390.out).2.1); rintro e w24 ⟨rfl, hb⟩; refine ⟨_, rfl, ?_⟩; have n0_ := Ak (Kd.N_below (by exact HO387.out) hb); have n1_ := Ak (Kd.R_below (by exact HO390.out) hb); have n2_ := Ak (below_step (by exact HB.out) hb); clear HO387 HO390 HB; have HO387 := n0_; have HO390 := n1_; have HB := n2_; clear n0_ n1_ n2_; (try clear hb); (try clear hi)) | ((with_reducible refine gate_callee (f := 53) rfl ?_); refine goesL_ (some 39) rfl rfl Try.func53 (by kernel_rfl) rfl #[.int .i64 t391, .slice Ao23 t388.length co23] rfl (by (try simp only [lm]); rfl) ?_; (with_reducible refine (e_encode.calls k t391 _ _ t388 t392 _ ?side1 ?side2 A14.out).mono ?_); (case side1 => repeat (exact (Kd.R_reads' HO390.out).2.2)); (case side2 => exact (Kd.R_reads' HO390.out).2.1); rintro e w25 ⟨v393, rfl, ho0, hb⟩; refine ⟨_, rfl, ?_⟩; have n0_ := Ak (Kd.N_elder' (by exact HO387.out) (Kd.R_base ho0) hb); have n1_ := Ak (Kd.R_below (by exact HO390.out) hb); have n2_ := Ak (Kd.R_lower ho0 (below_size (by exact HB.out))); have n3_ := Ak (below_step (by exact HB.out) hb); clear HO387 HO390 HB; have HO387 := n0_; have HO390 := n1_; have HO394 := n2_; have HB := n3_; clear n0_ n1_ n2_ n3_; (try clear hb); (try clear ho0)))
    go_ret2
    exact ⟨_, by rfl, by exact HO394.out, by exact HB.out⟩
  ·rw [if_neg c6] at H
   have c6b0 : (t382 == 0) = false := beq_eq_false_iff_ne.mpr c6
   have c6b1 : (t382 != 0) = true := bne_iff_ne.mpr c6
   simp only [Option.some.injEq, Prod.mk.injEq] at H
   obtain ⟨rfl, rfl⟩ := H
   go_enter Try.func33, Try.ntmps33
   go_wp2_with (first | ((with_reducible refine gate_callee (f := 21) rfl ?_); refine goesL_ (some 12) rfl rfl Try.func21 (by kernel_rfl) rfl #[.slice A0 l0.length c0] rfl (by (try simp only [lm]); rfl) ?_; (with_reducible refine (e_Decode.calls k _ _ l0 t377 t378 _ ?side1 ?side2 A3.out).mono ?_); (case side1 => repeat (exact HR0.out)); (case side2 => exact HC0.out); rintro e w26 ⟨v379, rfl, ho0, hb⟩; refine ⟨_, rfl, ?_⟩; have n0_ := Ak (Kd.R_lower ho0 (below_size (by exact HB.out))); have n1_ := Ak (below_step (by exact HB.out) hb); clear HB; have HO380 := n0_; have HB := n1_; clear n0_ n1_; (try clear hb); (try clear ho0)) | ((with_reducible refine gate_callee (f := 21) rfl ?_); refine goesL_ (some 20) rfl rfl Try.func21 (by kernel_rfl) rfl #[.slice A1 l1.length c1] rfl (by (try simp only [lm]); rfl) ?_; (with_reducible refine (e_Decode.calls k _ _ l1 t381 t382 _ ?side1 ?side2 A5.out).mono ?_); (case side1 => repeat (exact (Kd.C_below HR1.out HB.out))); (case side2 => exact HC1.out); rintro e w27 ⟨v383, rfl, ho0, hb⟩; refine ⟨_, rfl, ?_⟩; have n0_ := Ak (Kd.R_elder' (by exact HO380.out) (Kd.R_base ho0) hb); have n1_ := Ak (Kd.R_lower (Kd.R_new' ho0 (Kd.R_lt (by exact HO380.out))) (below_size (by exact HB.out))); have n2_ := Ak (below_step (by exact HB.out) hb); clear HO380 HB; have HO380 := n0_; have HO384 := n1_; have HB := n2_; clear n0_ n1_ n2_; (try clear hb); (try clear ho0)))
   go_ret2
   exact ⟨_, by rfl, by exact Kd.R_nil _ _ _ _ _, by exact HB.out⟩
 ·rw [if_neg c4] at H
  have c4b0 : (t378 == 0) = false := beq_eq_false_iff_ne.mpr c4
  have c4b1 : (t378 != 0) = true := bne_iff_ne.mpr c4
  simp only [Option.some.injEq, Prod.mk.injEq] at H
  obtain ⟨rfl, rfl⟩ := H
  go_enter Try.func33, Try.ntmps33
  go_wp2_with (first | ((with_reducible refine gate_callee (f := 21) rfl ?_); refine goesL_ (some 12) rfl rfl Try.func21 (by kernel_rfl) rfl #[.slice A0 l0.length c0] rfl (by (try simp only [lm]); rfl) ?_; (with_reducible refine (e_Decode.calls k _ _ l0 t377 t378 _ ?side1 ?side2 A3.out).mono ?_); (case side1 => repeat (exact HR0.out)); (case side2 => exact HC0.out); rintro e w28 ⟨v379, rfl, ho0, hb⟩; refine ⟨_, rfl, ?_⟩; have n0_ := Ak (Kd.R_lower ho0 (below_size (by exact HB.out))); have n1_ := Ak (below_step (by exact HB.out) hb); clear HB; have HO380 := n0_; have HB := n1_; clear n0_ n1_; (try clear hb); (try clear ho0)))
  go_ret2
  exact ⟨_, by rfl, by exact Kd.R_nil _ _ _ _ _, by exact HB.out⟩
def q_checkInts.l0 : Nat → List Int → Int → Int → Option (Int)
 | 0, _, _, _ => none
 | k + 1, x8, x9, x10 => if x10 < x9 then (if 0 ≤ x10 then (if x10 < (x8.length : Int) then (if (rd x8 x10) < (-1000000000000000) then (some 1) else (if (rd x8 x10) > 1000000000000000 then (some 1) else (q_checkInts.l0 k x8 x9 (wrap64 (x10 + 1))))) else (none)) else (none)) else (some 0)
def q_checkInts.f (k : Nat) (l0 : List Int) : Option (Int) := if (l0.length : Int) > 2000 then (some 2) else (q_checkInts.l0 k l0 (l0.length : Int) 0)
theorem q_checkInts.mono_l : ∀ k, (∀ y0 y1 y2, LeO (q_checkInts.l0 k y0 y1 y2) (q_checkInts.l0 (k + 1) y0 y1 y2))
 | 0 => fun _ _ _ r h => by simp [q_checkInts.l0] at h
 | k + 1 => by
  have ih0 := q_checkInts.mono_l k
  ·intro y0 y1 y2
   unfold q_checkInts.l0
   repeat' first
   | (with_reducible exact ih0 _ _ _)
   | (with_reducible exact LeO.refl _)
   | (with_reducible refine LeO.ite ?_ ?_)
theorem q_checkInts.mono : ∀ a0 k, LeO (q_checkInts.f k a0) (q_checkInts.f (k + 1) a0) := by
 intro a0 k
 have ih0 := q_checkInts.mono_l k
 unfold q_checkInts.f
 repeat' first
  | (with_reducible exact ih0 _ _ _)
  | (with_reducible exact LeO.refl _)
  | (with_reducible refine LeO.ite ?_ ?_)
set_option maxHeartbeats 8000000 in
set_option maxRecDepth 100000 in
theorem q_checkInts.calls (k : Nat) (A0 : Option Addr) (c0 : Nat) (l0 : List Int) (r : Int) (w : World) (hr0 : Kd.C (Kd.int .i64) w A0 l0.length l0) (hc0 : l0.length ≤ c0) (h : q_checkInts.f k l0 = some r) :
 Calls Try.prog 62 #[.slice A0 l0.length c0] w fun e w' => e = .returned (.int .i64 r) ∧ Drawn0 w w' := by
 have HR0 := Ak hr0
 have HC0 := Ak hc0
 clear hr0 hc0
 have H : (if (l0.length : Int) > 2000 then (some 2) else (q_checkInts.l0 k l0 (l0.length : Int) 0)) = some r := h
 clear h
 by_cases c2 : (l0.length : Int) > 2000
 ·rw [if_pos c2] at H
  have c2b0 : decide (2000 < (l0.length : Int)) = true := decide_eq_true c2
  have c2b1 : decide (2000 < l0.length) = true := decide_eq_true (by omega)
  clear c2
  obtain rfl := Option.some.inj H
  go_enter Try.func62, Try.ntmps62
  go_wp2
  go_ret
  exact ⟨by rfl, by repeat (exact Drawn0.refl _)⟩
 ·rw [if_neg c2] at H
  have c2b0 : decide (2000 < (l0.length : Int)) = false := decide_eq_false c2
  have c2b1 : decide (2000 < l0.length) = false := decide_eq_false (by omega)
  clear c2
  have H' := Ak H
  clear H
  go_enter Try.func62, Try.ntmps62
  go_wp2
  go_loopg [10] k (fun kq v10 w' => ∃ (x10_1 : Int), v10 = .int .i64 x10_1 ∧ Aside0 (q_checkInts.l0 kq l0 (l0.length : Int) x10_1 = some r) ∧ Aside0 (kq ≤ k) ∧ Drawn0 w w')
  case atStart => exact ⟨(0), (by rfl), H', ⟨Nat.le_refl _⟩, by repeat (exact Drawn0.refl _)⟩
  case round =>
   clear H'
   try clear c2b0
   try clear c2b1
   obtain ⟨x10_1, rfl, HA, HK1, ⟨m1, rfl⟩⟩ := hrel
   cases gk with
   | zero => exact absurd HA.out (by simp [q_checkInts.l0])
   | succ k1 =>
    have H := HA.out
    clear HA
    simp only [q_checkInts.l0] at H
    by_cases c3 : x10_1 < (l0.length : Int)
    ·rw [if_pos c3] at H
     have c3b0 : decide (x10_1 < (l0.length : Int)) = true := decide_eq_true c3
     clear c3
     by_cases c4 : 0 ≤ x10_1
     ·rw [if_pos c4] at H
      have c4b0 : decide (0 ≤ x10_1) = true := decide_eq_true c4
      clear c4
      by_cases c5 : x10_1 < (l0.length : Int)
      ·rw [if_pos c5] at H
       have c5b0 : decide (x10_1 < (l0.length : Int)) = true := decide_eq_true c5
       clear c5
       by_cases c6 : (rd l0 x10_1) < (-1000000000000000)
       ·rw [if_pos c6] at H
        have c6b0 : decide ((rd l0 x10_1) < (-1000000000000000)) = true := decide_eq_true c6
        clear c6
        obtain rfl := Option.some.inj H
        have p395 : 0 ≤ (x10_1 : Int) := of_decide_eq_true (by (with_reducible assumption))
        have q395 : x10_1 < (l0.length : Int) := of_decide_eq_true (by (with_reducible assumption))
        obtain ⟨ad395, e395, hx395_0⟩ := Kd.at_int HR0.out x10_1 p395 q395
        cases e395
        replace p395 := eq_true p395
        replace q395 := eq_true q395
        go_wp2
        go_ret
        exact ⟨by rfl, by repeat (first | exact Drawn0.refl _ | apply Drawn0.step)⟩
       ·rw [if_neg c6] at H
        have c6b0 : decide ((rd l0 x10_1) < (-1000000000000000)) = false := decide_eq_false c6
        clear c6
        by_cases c7 : (rd l0 x10_1) > 1000000000000000
        ·rw [if_pos c7] at H
         have c7b0 : decide (1000000000000000 < (rd l0 x10_1)) = true := decide_eq_true c7
         clear c7
         obtain rfl := Option.some.inj H
         have p395 : 0 ≤ (x10_1 : Int) := of_decide_eq_true (by (with_reducible assumption))
         have q395 : x10_1 < (l0.length : Int) := of_decide_eq_true (by (with_reducible assumption))
         obtain ⟨ad395, e395, hx395_0⟩ := Kd.at_int HR0.out x10_1 p395 q395
         cases e395
         replace p395 := eq_true p395
         replace q395 := eq_true q395
         go_wp2
         go_ret
         exact ⟨by rfl, by repeat (first | exact Drawn0.refl _ | apply Drawn0.step)⟩
        ·rw [if_neg c7] at H
         have c7b0 : decide (1000000000000000 < (rd l0 x10_1)) = false := decide_eq_false c7
         clear c7
         have H' := Ak H
         clear H
         have p395 : 0 ≤ (x10_1 : Int) := of_decide_eq_true (by (with_reducible assumption))
         have q395 : x10_1 < (l0.length : Int) := of_decide_eq_true (by (with_reducible assumption))
         obtain ⟨ad395, e395, hx395_0⟩ := Kd.at_int HR0.out x10_1 p395 q395
         cases e395
         replace p395 := eq_true p395
         replace q395 := eq_true q395
         go_wp2
         go_roundg k1
         case measure => have := HK1.out; omega
         case rel => exact ⟨(wrap64 (x10_1 + 1)), (by rfl), H', ⟨by have := HK1.out; omega⟩, by repeat (first | exact Drawn0.refl _ | apply Drawn0.step)⟩
      ·rw [if_neg c5] at H
       exact absurd H (by simp)
     ·rw [if_neg c4] at H
      exact absurd H (by simp)
    ·rw [if_neg c3] at H
     have c3b0 : decide (x10_1 < (l0.length : Int)) = false := decide_eq_false c3
     clear c3
     obtain rfl := Option.some.inj H
     go_wp2
     go_ret
     exact ⟨by rfl, by repeat (first | exact Drawn0.refl _ | apply Drawn0.step)⟩
def q_count.l0 : Nat → Int → List Int → Option (List Int)
 | 0, _, _ => none
 | k + 1, x0, x3 => if x0 > 127 then (if x3.length < 140737488355328 then (q_count.l0 k (x0 / 128) (x3 ++ [(Go.bits .or .i64 (Go.bits .and .i64 x0 127) 128) % 256])) else (none)) else (if x3.length < 140737488355328 then (some (x3 ++ [(x0) % 256])) else (none))
def q_count.f (k : Nat) (a0 : Int) : Option (List Int) := q_count.l0 k a0 ([] : List Int)
theorem q_count.mono_l : ∀ k, (∀ y0 y1, LeO (q_count.l0 k y0 y1) (q_count.l0 (k + 1) y0 y1))
 | 0 => fun _ _ r h => by simp [q_count.l0] at h
 | k + 1 => by
  have ih0 := q_count.mono_l k
  ·intro y0 y1
   unfold q_count.l0
   repeat' first
   | (with_reducible exact ih0 _ _)
   | (with_reducible exact LeO.refl _)
   | (with_reducible refine LeO.ite ?_ ?_)
theorem q_count.mono : ∀ a0 k, LeO (q_count.f k a0) (q_count.f (k + 1) a0) := by
 intro a0 k
 have ih0 := q_count.mono_l k
 unfold q_count.f
 repeat' first
  | (with_reducible exact ih0 _ _)
set_option maxHeartbeats 8000000 in
set_option maxRecDepth 100000 in
theorem q_count.calls (k : Nat) (a0 : Int) (r : List Int) (w : World) (h : q_count.f k a0 = some r) :
 Calls Try.prog 55 #[.int .i64 a0] w fun e w' => ∃ v0_ : Value, e = .returned (v0_) ∧ Kd.R (Kd.int .u8) 5 w' w.heap.size (fun _ => True) v0_ r ∧ Below w.heap.size w w' := by
 have HB := Ak (Below.refl w.heap.size w)
 have H : (q_count.l0 k a0 ([] : List Int)) = some r := h
 clear h
 have H' := Ak H
 clear H
 go_enter Try.func55, Try.ntmps55
 go_wp2
 go_loopg [0, 3] k (fun kq v0 v3 w' => ∃ (x0_1 : Int) (x3_1 : List Int), v0 = .int .i64 x0_1 ∧ Aside0 (q_count.l0 kq x0_1 x3_1 = some r) ∧ Aside0 (kq ≤ k) ∧ Aside0 (Kd.R (Kd.int .u8) 5 w' w.heap.size (fun _ => True) v3 x3_1) ∧ Aside0 (Below w.heap.size w w'))
 case atStart => exact ⟨(a0), (([] : List Int)), (by rfl), H', ⟨Nat.le_refl _⟩, ⟨by exact Kd.R_nil _ _ _ _ _⟩, ⟨by exact HB.out⟩⟩
 case round =>
  clear H'
  obtain ⟨x0_1, x3_1, rfl, HA, HK1, HO_3, HB⟩ := hrel
  cases gk with
  | zero => exact absurd HA.out (by simp [q_count.l0])
  | succ k1 =>
   have H := HA.out
   clear HA
   simp only [q_count.l0] at H
   by_cases c2 : x0_1 > 127
   ·rw [if_pos c2] at H
    have c2b0 : decide (127 < x0_1) = true := decide_eq_true c2
    clear c2
    by_cases c3 : x3_1.length < 140737488355328
    ·rw [if_pos c3] at H
     have LMc3 := Ak c3
     clear c3
     obtain ⟨y396, hy396⟩ : ∃ y_ : List Int, y_ = (x3_1 ++ [(Go.bits .or .i64 (Go.bits .and .i64 x0_1 127) 128) % 256]) := ⟨_, rfl⟩
     replace H : (q_count.l0 k1 (x0_1 / 128) y396) = some r := by (rw [hy396]; with_reducible exact H)
     have Ny396 := Ak hy396
     clear hy396
     have H' := Ak H
     clear H
     go_wp2_with (first | ((with_reducible refine gate_builtin (b := .append) (xs := #[.tmp 6, .tmp 11]) rfl ?_); at_builtin; refine Kd.R_append (Kd.int .u8) (w0 := w) w.heap.size rfl (.tmp 6) (.tmp 11) 27 5 (.int .u8 0) 1 rfl Try.underlying27 info5 rfl (by decide) (by omega) u3 x3_1 ((Go.bits .or .i64 (Go.bits .and .i64 x0_1 127) 128) % 256) [.int .u8 ((Go.bits .or .i64 (Go.bits .and .i64 x0_1 127) 128) % 256)] (fun _ => True) (fun _ => False) rfl rfl ?aP (fun _ hk => hk.elim) ?aF ?aO ?aB ?aS ?aL ?_; (case aP => exact rfl); (case aB => exact (by exact HB.out)); (case aF => exact (fun _ _ => trivial)); (case aO => exact (by exact HO_3.out)); (case aS => exact (below_size (by exact HB.out))); (case aL => have := LMc3.out; omega); intro v397 w4 ho hb hg hat; rw [← Ny396.out] at ho; have n0_ := Ak (hb); have n1_ := Ak (ho); clear HB HO_3; have HB := n0_; have HO398 := n1_; clear n0_ n1_ ho hb hg hat))
     go_roundg k1
     case measure => have := HK1.out; omega
     case rel => exact ⟨(x0_1 / 128), (y396), (by rfl), H', ⟨by have := HK1.out; omega⟩, ⟨by exact HO398.out⟩, ⟨by exact HB.out⟩⟩
    ·rw [if_neg c3] at H
     exact absurd H (by simp)
   ·rw [if_neg c2] at H
    have c2b0 : decide (127 < x0_1) = false := decide_eq_false c2
    clear c2
    by_cases c5 : x3_1.length < 140737488355328
    ·rw [if_pos c5] at H
     have LMc5 := Ak c5
     clear c5
     obtain ⟨y399, hy399⟩ : ∃ y_ : List Int, y_ = (x3_1 ++ [(x0_1) % 256]) := ⟨_, rfl⟩
     replace H : (some y399) = some r := by (rw [hy399]; with_reducible exact H)
     have Ny399 := Ak hy399
     clear hy399
     obtain rfl := Option.some.inj H
     go_wp2_with (first | ((with_reducible refine gate_builtin (b := .append) (xs := #[.tmp 15, .tmp 18]) rfl ?_); at_builtin; refine Kd.R_append (Kd.int .u8) (w0 := w) w.heap.size rfl (.tmp 15) (.tmp 18) 27 5 (.int .u8 0) 1 rfl Try.underlying27 info5 rfl (by decide) (by omega) u3 x3_1 ((x0_1) % 256) [.int .u8 ((x0_1) % 256)] (fun _ => True) (fun _ => False) rfl rfl ?aP (fun _ hk => hk.elim) ?aF ?aO ?aB ?aS ?aL ?_; (case aP => exact rfl); (case aB => exact (by exact HB.out)); (case aF => exact (fun _ _ => trivial)); (case aO => exact (by exact HO_3.out)); (case aS => exact (below_size (by exact HB.out))); (case aL => have := LMc5.out; omega); intro v400 w6 ho hb hg hat; rw [← Ny399.out] at ho; have n0_ := Ak (hb); have n1_ := Ak (ho); clear HB HO_3; have HB := n0_; have HO401 := n1_; clear n0_ n1_ ho hb hg hat))
     go_ret
     exact ⟨_, by rfl, by exact HO401.out, by exact HB.out⟩
    ·rw [if_neg c5] at H
     exact absurd H (by simp)
def q_number.f (k : Nat) (a0 : Int) : Option (List Int) := if a0 < 0 then ((q_count.f k (wrap64 ((wrap64 ((-2) * a0)) - 1))).bind fun t402 => (some t402)) else ((q_count.f k (wrap64 (2 * a0))).bind fun t405 => (some t405))
theorem q_number.mono : ∀ a0 k, LeO (q_number.f k a0) (q_number.f (k + 1) a0) := by
 intro a0 k
 unfold q_number.f
 repeat' first
  | (with_reducible exact q_count.mono _ _)
  | (with_reducible exact LeO.refl _)
  | (with_reducible refine LeO.ite ?_ ?_)
  | (with_reducible refine LeO.bind ?_ (fun _ => ?_))
set_option maxHeartbeats 8000000 in
set_option maxRecDepth 100000 in
theorem q_number.calls (k : Nat) (a0 : Int) (r : List Int) (w : World) (h : q_number.f k a0 = some r) :
 Calls Try.prog 81 #[.int .i64 a0] w fun e w' => ∃ v0_ : Value, e = .returned (v0_) ∧ Kd.R (Kd.int .u8) 5 w' w.heap.size (fun _ => True) v0_ r ∧ Below w.heap.size w w' := by
 have HB := Ak (Below.refl w.heap.size w)
 have H : (if a0 < 0 then ((q_count.f k (wrap64 ((wrap64 ((-2) * a0)) - 1))).bind fun t402 => (some t402)) else ((q_count.f k (wrap64 (2 * a0))).bind fun t405 => (some t405))) = some r := h
 clear h
 by_cases c2 : a0 < 0
 ·rw [if_pos c2] at H
  have c2b0 : decide (a0 < 0) = true := decide_eq_true c2
  clear c2
  replace H := Option.bind_eq_some_iff.mp H
  obtain ⟨t402, A30, H⟩ := H
  replace H : (some t402) = some r := H
  have A3 := Ak A30
  clear A30
  obtain rfl := Option.some.inj H
  go_enter Try.func81, Try.ntmps81
  go_wp2_with (first | ((with_reducible refine gate_callee (f := 55) rfl ?_); refine goesL_ (some 8) rfl rfl Try.func55 (by kernel_rfl) rfl #[.int .i64 (wrap64 ((wrap64 ((-2) * a0)) - 1))] rfl (by (try simp only [lm]); rfl) ?_; (with_reducible refine (q_count.calls k (wrap64 ((wrap64 ((-2) * a0)) - 1)) t402 _ A3.out).mono ?_); rintro e w4 ⟨v403, rfl, ho0, hb⟩; refine ⟨_, rfl, ?_⟩; have n0_ := Ak (Kd.R_lower ho0 (below_size (by exact HB.out))); have n1_ := Ak (below_step (by exact HB.out) hb); clear HB; have HO404 := n0_; have HB := n1_; clear n0_ n1_; (try clear hb); (try clear ho0)))
  go_ret
  exact ⟨_, by rfl, by exact HO404.out, by exact HB.out⟩
 ·rw [if_neg c2] at H
  have c2b0 : decide (a0 < 0) = false := decide_eq_false c2
  clear c2
  replace H := Option.bind_eq_some_iff.mp H
  obtain ⟨t405, A50, H⟩ := H
  replace H : (some t405) = some r := H
  have A5 := Ak A50
  clear A50
  obtain rfl := Option.some.inj H
  go_enter Try.func81, Try.ntmps81
  go_wp2_with (first | ((with_reducible refine gate_callee (f := 55) rfl ?_); refine goesL_ (some 11) rfl rfl Try.func55 (by kernel_rfl) rfl #[.int .i64 (wrap64 (2 * a0))] rfl (by (try simp only [lm]); rfl) ?_; (with_reducible refine (q_count.calls k (wrap64 (2 * a0)) t405 _ A5.out).mono ?_); rintro e w6 ⟨v406, rfl, ho0, hb⟩; refine ⟨_, rfl, ?_⟩; have n0_ := Ak (Kd.R_lower ho0 (below_size (by exact HB.out))); have n1_ := Ak (below_step (by exact HB.out) hb); clear HB; have HO407 := n0_; have HB := n1_; clear n0_ n1_; (try clear hb); (try clear ho0)))
  go_ret
  exact ⟨_, by rfl, by exact HO407.out, by exact HB.out⟩
end Go.Proofs.Ythhdihnaicggiaa.K
