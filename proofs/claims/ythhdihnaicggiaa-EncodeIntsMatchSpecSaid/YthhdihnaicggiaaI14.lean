/- Printed by a program of this session (wip/tools/printh.py over the kit's printer): Lean functions that answer as the Go functions do, with the proofs of it. No conditions beyond those in each theorem. -/
import Derived.Test.YthhdihnaicggiaaI0
import Derived.Test.YthhdihnaicggiaaI13
namespace Go.Proofs.Ythhdihnaicggiaa.I
open Go.RowKit Go.Proofs.YthhdihnaicggiaaW.PrintWords Go.Proofs.YthhdihnaicggiaaW.PrintLast Go.Proofs.YthhdihnaicggiaaW.PrintMore
attribute [local go_sem] max2_int min2_int max_two min_two max_three min_three max_four min_four   -- for this text's walks alone
set_option linter.unusedVariables false
set_option linter.unusedSimpArgs false

/-! ### peristyleref2_reader_runs: function 87 -/
mutual
def peristyleref2_reader_runs.l0 : Nat → Int → List Int → List Int → Bool → Option (List Int × List Int × Bool)
 | 0, _, _, _, _ => none
 | k + 1, x1, x5, x1000, x1001 => if (x5.length : Int) < x1 then (peristyleref2_reader_runs.j1 k x1 x5 (!x1001) x1000 x1001) else (peristyleref2_reader_runs.j1 k x1 x5 false x1000 x1001)
def peristyleref2_reader_runs.j1 : Nat → Int → List Int → Bool → List Int → Bool → Option (List Int × List Int × Bool)
 | 0, _, _, _, _, _ => none
 | k + 1, x1, x5, x18, x1000, x1001 => if x18 = true then ((peristyleref2_reader_number.f k x1000 x1001).bind fun bt533 => ((peristyleref2_reader_count.f k bt533.2.1 bt533.2.2).bind fun bt536 => (if bt536.1 < 1 then (peristyleref2_reader_runs.j2 k x1 x5 bt533.1 bt536.1 true bt536.2.1 bt536.2.2) else (peristyleref2_reader_runs.j2 k x1 x5 bt533.1 bt536.1 (decide (bt536.1 > (wrap64 (x1 - (x5.length : Int))))) bt536.2.1 bt536.2.2)))) else (some (x5, x1000, x1001))
def peristyleref2_reader_runs.j2 : Nat → Int → List Int → Int → Int → Bool → List Int → Bool → Option (List Int × List Int × Bool)
 | 0, _, _, _, _, _, _, _ => none
 | k + 1, x1, x5, x6, x7, x32, x1000, x1001 => if x32 = true then (some (([] : List Int), x1000, true)) else (peristyleref2_reader_runs.l1 k x1 x5 x6 x7 0 x1000 x1001)
def peristyleref2_reader_runs.l1 : Nat → Int → List Int → Int → Int → Int → List Int → Bool → Option (List Int × List Int × Bool)
 | 0, _, _, _, _, _, _, _ => none
 | k + 1, x1, x5, x6, x36, x37, x1000, x1001 => if x37 < x36 then (if x5.length < 17592186044416 then (peristyleref2_reader_runs.l1 k x1 (x5 ++ [x6]) x6 x36 (wrap64 (x37 + 1)) x1000 x1001) else (none)) else (peristyleref2_reader_runs.l0 k x1 x5 x1000 x1001)
end
def peristyleref2_reader_runs.f (k : Nat) (s0_0 : List Int) (s0_1 : Bool) (a1 : Int) : Option (List Int × List Int × Bool) := peristyleref2_reader_runs.l0 k a1 ([] : List Int) s0_0 s0_1
theorem peristyleref2_reader_runs.mono_l : ∀ k, (∀ y0 y1 y2 y3, LeO (peristyleref2_reader_runs.l0 k y0 y1 y2 y3) (peristyleref2_reader_runs.l0 (k + 1) y0 y1 y2 y3)) ∧ (∀ y0 y1 y2 y3 y4, LeO (peristyleref2_reader_runs.j1 k y0 y1 y2 y3 y4) (peristyleref2_reader_runs.j1 (k + 1) y0 y1 y2 y3 y4)) ∧ (∀ y0 y1 y2 y3 y4 y5 y6, LeO (peristyleref2_reader_runs.j2 k y0 y1 y2 y3 y4 y5 y6) (peristyleref2_reader_runs.j2 (k + 1) y0 y1 y2 y3 y4 y5 y6)) ∧ (∀ y0 y1 y2 y3 y4 y5 y6, LeO (peristyleref2_reader_runs.l1 k y0 y1 y2 y3 y4 y5 y6) (peristyleref2_reader_runs.l1 (k + 1) y0 y1 y2 y3 y4 y5 y6))
 | 0 => ⟨fun _ _ _ _ r h => by simp [peristyleref2_reader_runs.l0] at h, fun _ _ _ _ _ r h => by simp [peristyleref2_reader_runs.j1] at h, fun _ _ _ _ _ _ _ r h => by simp [peristyleref2_reader_runs.j2] at h, fun _ _ _ _ _ _ _ r h => by simp [peristyleref2_reader_runs.l1] at h⟩
 | k + 1 => by
  obtain ⟨ih0, ih1, ih2, ih3⟩ := peristyleref2_reader_runs.mono_l k
  refine ⟨?_, ?_, ?_, ?_⟩ <;> intros
  all_goals (first | unfold peristyleref2_reader_runs.l0 | unfold peristyleref2_reader_runs.j1 | unfold peristyleref2_reader_runs.j2 | unfold peristyleref2_reader_runs.l1)
  all_goals
   repeat' first
   | (with_reducible exact ih0 _ _ _ _)
   | (with_reducible exact ih1 _ _ _ _ _)
   | (with_reducible exact ih2 _ _ _ _ _ _ _)
   | (with_reducible exact ih3 _ _ _ _ _ _ _)
   | (with_reducible exact peristyleref2_reader_count.mono _ _ _)
   | (with_reducible exact peristyleref2_reader_number.mono _ _ _)
   | (with_reducible exact LeO.refl _)
   | (with_reducible refine LeO.ite ?_ ?_)
   | (with_reducible refine LeO.bind ?_ (fun _ => ?_))
theorem peristyleref2_reader_runs.mono : ∀ a0 a1 a2 k, LeO (peristyleref2_reader_runs.f k a0 a1 a2) (peristyleref2_reader_runs.f (k + 1) a0 a1 a2) := by
 intro a0 a1 a2 k
 obtain ⟨ih0, ih1, ih2, ih3⟩ := peristyleref2_reader_runs.mono_l k
 unfold peristyleref2_reader_runs.f
 repeat' first
  | (with_reducible exact ih0 _ _ _ _)
set_option maxHeartbeats 8000000 in
set_option maxRecDepth 100000 in
theorem peristyleref2_reader_runs.calls (k : Nat) (g : Nat) (s0_0 : List Int) (s0_1 : Bool) (a1 : Int) (r1 : List Int) (r2 : List Int) (r3 : Bool) (w0 w : World) (hI : IsS75 w0 w g s0_0 s0_1) (hB : Below w0.heap.size w0 w) (h : peristyleref2_reader_runs.f k s0_0 s0_1 a1 = some (r1, r2, r3)) :
 Calls Try.prog 87 #[.pointer (some ⟨g, 0, none⟩), .int .i64 a1] w fun e w' => ∃ v0_ : Value, e = .returned (v0_) ∧ Kd.R (Kd.int .i64) 3 w' w.heap.size (fun _ => True) v0_ r1 ∧ IsS75 w0 w' g r2 r3 ∧ Below w0.heap.size w0 w' ∧ KeepBut w w' g none := by
 have HI0 := Aside0.mk hI
 have HK := Aside0.mk (KeepBut.refl w g none)
 have HL := Aside0.mk hB.size
 clear hI
 have HW0 := Aside0.mk hB.size
 have HB := Aside0.mk hB
 have HBZ := Aside0.mk hB
 clear hB
 have H : (peristyleref2_reader_runs.l0 k a1 ([] : List Int) s0_0 s0_1) = some (r1, r2, r3) := h
 clear h
 have H' := Aside0.mk H
 clear H
 go_enter Try.func87, Try.ntmps87
 go_wp2
 go_loopg [5] k (fun kq v5 w' => ∃ (x5_1 : List Int) (x1000_1 : List Int) (x1001_1 : Bool), Aside0 (peristyleref2_reader_runs.l0 kq a1 x5_1 x1000_1 x1001_1 = some (r1, r2, r3)) ∧ Aside0 (kq ≤ k) ∧ Aside0 (Kd.R (Kd.int .i64) 3 w' w.heap.size (fun _ => True) v5 x5_1) ∧ Aside0 (IsS75 w0 w' g x1000_1 x1001_1) ∧ Aside0 (KeepBut w w' g none) ∧ Aside0 (Below w0.heap.size w0 w'))
 case atStart => exact ⟨(([] : List Int)), (s0_0), (s0_1), H', ⟨Nat.le_refl _⟩, ⟨by exact Kd.R_nil _ _ _ _ _⟩, ⟨by exact HI0.out⟩, ⟨by exact HK.out⟩, ⟨by exact HB.out⟩⟩
 case round =>
  clear H'
  obtain ⟨x5_1, x1000_1, x1001_1, HA, HK1, HO_5, HI0, HK, HB⟩ := hrel
  cases gk with
  | zero => exact absurd HA.out (by simp [peristyleref2_reader_runs.l0])
  | succ k1 =>
   have H := HA.out
   clear HA
   simp only [peristyleref2_reader_runs.l0] at H
   have HC3 := Aside0.mk H
   clear H
   go_upto_region 2 with (fail)
   go_cut [18] (fun v18 wc => ∃ (kq : Nat) (x18_2 : Bool), v18 = .bool x18_2 ∧ Aside0 (peristyleref2_reader_runs.j1 kq a1 x5_1 x18_2 x1000_1 x1001_1 = some (r1, r2, r3)) ∧ Aside0 (kq ≤ k1) ∧ Aside0 (Kd.R (Kd.int .i64) 3 wc w.heap.size (fun _ => True) u5 x5_1) ∧ Aside0 (IsS75 w0 wc g x1000_1 x1001_1) ∧ Aside0 (KeepBut w wc g none) ∧ Aside0 (Below w0.heap.size w0 wc))
   case first =>
    have H := HC3.out
    clear HC3
    by_cases c4 : (x5_1.length : Int) < a1
    ·rw [if_pos c4] at H
     have c4b0 : decide ((x5_1.length : Int) < a1) = true := decide_eq_true c4
     clear c4
     (skip)
     (try rw [c4b1])
     have H' := Aside0.mk H
     clear H
     obtain ⟨Ao5, co5, eo5⟩ := Kd.R_slice HO_5.out
     subst eo5
     obtain ⟨ASz6_0, cSz6_0, HGz6, hgz6, HSz6_0⟩ := HI0.out
     have hcz6_0 := cellS75_0 HGz6
     have hcz6_1 := cellS75_1 HGz6
     have hfz6_0 := blk_frozen HGz6 0
     have hfz6_1 := blk_frozen HGz6 1
     have HCSz6_0 := HSz6_0.1
     replace HSz6_0 := HSz6_0.2
     clear HGz6 hgz6
     go_wp2
     go_meet
     case rel => exact ⟨_, (!x1001_1), (by rfl), H', ⟨by have := HK1.out; omega⟩, ⟨by exact HO_5.out⟩, ⟨by exact HI0.out⟩, ⟨by exact HK.out⟩, ⟨by exact HB.out⟩⟩
    ·rw [if_neg c4] at H
     have c4b0 : decide ((x5_1.length : Int) < a1) = false := decide_eq_false c4
     clear c4
     (skip)
     (try rw [c4b1])
     have H' := Aside0.mk H
     clear H
     obtain ⟨Ao7, co7, eo7⟩ := Kd.R_slice HO_5.out
     subst eo7
     go_wp2
     go_meet
     case rel => exact ⟨_, (false), (by rfl), H', ⟨by have := HK1.out; omega⟩, ⟨by exact HO_5.out⟩, ⟨by exact HI0.out⟩, ⟨by exact HK.out⟩, ⟨by exact HB.out⟩⟩
   case rest =>
    clear HC3
    obtain ⟨kq, x18_2, rfl, HA, HJ2, HO_5, HI0, HK, HB⟩ := hcut
    cases kq with
    | zero => exact absurd HA.out (by simp [peristyleref2_reader_runs.j1])
    | succ kj2 =>
     have H := HA.out
     clear HA
     simp only [peristyleref2_reader_runs.j1] at H
     by_cases c8 : x18_2 = true
     ·subst c8
      have H1 : ((peristyleref2_reader_number.f kj2 x1000_1 x1001_1).bind fun bt533 => ((peristyleref2_reader_count.f kj2 bt533.2.1 bt533.2.2).bind fun bt536 => (if bt536.1 < 1 then (peristyleref2_reader_runs.j2 kj2 a1 x5_1 bt533.1 bt536.1 true bt536.2.1 bt536.2.2) else (peristyleref2_reader_runs.j2 kj2 a1 x5_1 bt533.1 bt536.1 (decide (bt536.1 > (wrap64 (a1 - (x5_1.length : Int))))) bt536.2.1 bt536.2.2)))) = some (r1, r2, r3) := by rw [if_pos rfl] at H; exact H
      clear H
      have H := H1
      clear H1
      replace H := Option.bind_eq_some_iff.mp H
      obtain ⟨⟨t533, t534, t535⟩, A90, H⟩ := H
      replace H : ((peristyleref2_reader_count.f kj2 t534 t535).bind fun bt536 => (if bt536.1 < 1 then (peristyleref2_reader_runs.j2 kj2 a1 x5_1 t533 bt536.1 true bt536.2.1 bt536.2.2) else (peristyleref2_reader_runs.j2 kj2 a1 x5_1 t533 bt536.1 (decide (bt536.1 > (wrap64 (a1 - (x5_1.length : Int))))) bt536.2.1 bt536.2.2))) = some (r1, r2, r3) := H
      have A9 := Aside0.mk A90
      clear A90
      replace H := Option.bind_eq_some_iff.mp H
      obtain ⟨⟨t536, t537, t538⟩, A100, H⟩ := H
      replace H : (if t536 < 1 then (peristyleref2_reader_runs.j2 kj2 a1 x5_1 t533 t536 true t537 t538) else (peristyleref2_reader_runs.j2 kj2 a1 x5_1 t533 t536 (decide (t536 > (wrap64 (a1 - (x5_1.length : Int))))) t537 t538)) = some (r1, r2, r3) := H
      have A10 := Aside0.mk A100
      clear A100
      have HC11 := Aside0.mk H
      clear H
      go_upto_region 4 with (first | ((with_reducible refine gate_callee (f := 86) rfl ?_); refine goesL_ (some 20) rfl rfl Try.func86 (by kernel_rfl) rfl #[.pointer (some ⟨g, 0, none⟩)] rfl (by (try simp only [List.map_toArray, List.map_cons, List.map_nil]); rfl) ?_; (with_reducible refine (peristyleref2_reader_number.calls kj2 g x1000_1 x1001_1 t533 t534 t535 w0 _ ?side1 ?side2 A9.out).mono ?_); (case side1 => exact HI0.out); (case side2 => exact HB.out); rintro e w12 ⟨rfl, hi, hb, hk⟩; refine ⟨_, rfl, ?_⟩; have n0_ := Aside0.mk (Kd.R_mono (Kd.R_keep (IsS75.apart (show IsS75 w0 _ g x1000_1 x1001_1 from by exact HI0.out) (by exact HO_5.out) (by decide)) hk (fun _ h => h.2)) (fun _ h => h.1)); have n1_ := Aside0.mk (KeepBut.trans (by exact HK.out) hk (.inl rfl)); have n2_ := Aside0.mk (hb); have n3_ := Aside0.mk (hi); clear HO_5; clear HK; clear HB; clear HI0; have HO_5 := n0_; have HK := n1_; have HB := n2_; have HI0 := n3_; clear n0_ n1_ n2_ n3_; (try clear hb); (try clear hk); (try clear hi)) | ((with_reducible refine gate_callee (f := 60) rfl ?_); refine goesL_ (some 22) rfl rfl Try.func60 (by kernel_rfl) rfl #[.pointer (some ⟨g, 0, none⟩)] rfl (by (try simp only [List.map_toArray, List.map_cons, List.map_nil]); rfl) ?_; (with_reducible refine (peristyleref2_reader_count.calls kj2 g t534 t535 t536 t537 t538 w0 _ ?side1 ?side2 A10.out).mono ?_); (case side1 => exact HI0.out); (case side2 => exact HB.out); rintro e w13 ⟨rfl, hi, hb, hk⟩; refine ⟨_, rfl, ?_⟩; have n0_ := Aside0.mk (Kd.R_mono (Kd.R_keep (IsS75.apart (show IsS75 w0 _ g t534 t535 from by exact HI0.out) (by exact HO_5.out) (by decide)) hk (fun _ h => h.2)) (fun _ h => h.1)); have n1_ := Aside0.mk (KeepBut.trans (by exact HK.out) hk (.inl rfl)); have n2_ := Aside0.mk (hb); have n3_ := Aside0.mk (hi); clear HO_5; clear HK; clear HB; clear HI0; have HO_5 := n0_; have HK := n1_; have HB := n2_; have HI0 := n3_; clear n0_ n1_ n2_ n3_; (try clear hb); (try clear hk); (try clear hi)))
      (try simp only [Act.put, List.setIfInBounds_toArray, List.set_cons_zero, List.set_cons_succ])
      go_cut [32] (fun v32 wc => ∃ (kq : Nat) (x32_10 : Bool), v32 = .bool x32_10 ∧ Aside0 (peristyleref2_reader_runs.j2 kq a1 x5_1 t533 t536 x32_10 t537 t538 = some (r1, r2, r3)) ∧ Aside0 (kq ≤ kj2) ∧ Aside0 (Kd.R (Kd.int .i64) 3 wc w.heap.size (fun _ => True) u5 x5_1) ∧ Aside0 (IsS75 w0 wc g t537 t538) ∧ Aside0 (KeepBut w wc g none) ∧ Aside0 (Below w0.heap.size w0 wc))
      case first =>
       have H := HC11.out
       clear HC11
       by_cases c14 : t536 < 1
       ·rw [if_pos c14] at H
        have c14b0 : decide (t536 < 1) = true := decide_eq_true c14
        clear c14
        (skip)
        (try rw [c14b1])
        have H' := Aside0.mk H
        clear H
        go_wp2
        go_meet
        case rel => exact ⟨_, (true), (by rfl), H', ⟨by have := HK1.out; have := HJ2.out; omega⟩, ⟨by exact HO_5.out⟩, ⟨by exact HI0.out⟩, ⟨by exact HK.out⟩, ⟨by exact HB.out⟩⟩
       ·rw [if_neg c14] at H
        have c14b0 : decide (t536 < 1) = false := decide_eq_false c14
        clear c14
        (skip)
        (try rw [c14b1])
        have H' := Aside0.mk H
        clear H
        obtain ⟨Ao15, co15, eo15⟩ := Kd.R_slice HO_5.out
        subst eo15
        go_wp2
        go_meet
        case rel => exact ⟨_, (decide (t536 > (wrap64 (a1 - (x5_1.length : Int))))), (by rfl), H', ⟨by have := HK1.out; have := HJ2.out; omega⟩, ⟨by exact HO_5.out⟩, ⟨by exact HI0.out⟩, ⟨by exact HK.out⟩, ⟨by exact HB.out⟩⟩
      case rest =>
       clear HC11
       obtain ⟨kq, x32_10, rfl, HA, HJ10, HO_5, HI0, HK, HB⟩ := hcut
       cases kq with
       | zero => exact absurd HA.out (by simp [peristyleref2_reader_runs.j2])
       | succ kj10 =>
        have H := HA.out
        clear HA
        simp only [peristyleref2_reader_runs.j2] at H
        by_cases c16 : x32_10 = true
        ·subst c16
         have H1 : (some (([] : List Int), t537, true)) = some (r1, r2, r3) := by rw [if_pos rfl] at H; exact H
         clear H
         have H := H1
         clear H1
         simp only [Option.some.injEq, Prod.mk.injEq] at H
         obtain ⟨rfl, rfl, rfl⟩ := H
         obtain ⟨ASz17_0, cSz17_0, HGz17, hgz17, HSz17_0⟩ := HI0.out
         have hcz17_0 := cellS75_0 HGz17
         have hcz17_1 := cellS75_1 HGz17
         have hfz17_0 := blk_frozen HGz17 0
         have hfz17_1 := blk_frozen HGz17 1
         have HCSz17_0 := HSz17_0.1
         replace HSz17_0 := HSz17_0.2
         clear HGz17 hgz17
         go_wp2
         go_ret
         exact ⟨_, by rfl, by exact Kd.R_nil _ _ _ _ _, by repeat ((with_reducible first | exact HI0.out | apply IsS75.set_1)), by repeat ((with_reducible first | exact HB.out | refine below_set ?_ (IsS75.ge HI0.out))), by repeat ((with_reducible first | exact HK.out | apply KeepBut.set_ ))⟩
        ·replace c16 := Bool.eq_false_iff.mpr c16
         subst c16
         have H1 : (peristyleref2_reader_runs.l1 kj10 a1 x5_1 t533 t536 0 t537 t538) = some (r1, r2, r3) := by rw [if_neg (show ¬ (false = true) by decide)] at H; exact H
         clear H
         have H := H1
         clear H1
         have H' := Aside0.mk H
         clear H
         go_wp2
         go_loopg [5, 37] kj10 (fun kq v5 v37 w' => ∃ (x5_4 : List Int) (x37_4 : Int), v37 = .int .i64 x37_4 ∧ Aside0 (peristyleref2_reader_runs.l1 kq a1 x5_4 t533 t536 x37_4 t537 t538 = some (r1, r2, r3)) ∧ Aside0 (kq ≤ kj10) ∧ Aside0 (Kd.R (Kd.int .i64) 3 w' w.heap.size (fun _ => True) v5 x5_4) ∧ Aside0 (IsS75 w0 w' g t537 t538) ∧ Aside0 (KeepBut w w' g none) ∧ Aside0 (Below w0.heap.size w0 w'))
         case atStart => exact ⟨(x5_1), (0), (by rfl), H', ⟨Nat.le_refl _⟩, ⟨by exact HO_5.out⟩, ⟨by exact HI0.out⟩, ⟨by exact HK.out⟩, ⟨by exact HB.out⟩⟩
         case round =>
          clear H'
          obtain ⟨x5_4, x37_4, rfl, HA, HK4, HO_5, HI0, HK, HB⟩ := hrel
          cases gk with
          | zero => exact absurd HA.out (by simp [peristyleref2_reader_runs.l1])
          | succ k4 =>
           have H := HA.out
           clear HA
           simp only [peristyleref2_reader_runs.l1] at H
           by_cases c18 : x37_4 < t536
           ·rw [if_pos c18] at H
            have c18b0 : decide (x37_4 < t536) = true := decide_eq_true c18
            clear c18
            by_cases c19 : x5_4.length < 17592186044416
            ·rw [if_pos c19] at H
             have LMc19 := Aside0.mk c19
             clear c19
             obtain ⟨y539, hy539⟩ : ∃ y_ : List Int, y_ = (x5_4 ++ [t533]) := ⟨_, rfl⟩
             replace H : (peristyleref2_reader_runs.l1 k4 a1 y539 t533 t536 (wrap64 (x37_4 + 1)) t537 t538) = some (r1, r2, r3) := by (rw [hy539]; with_reducible exact H)
             have Ny539 := Aside0.mk hy539
             clear hy539
             have H' := Aside0.mk H
             clear H
             go_wp2_with (first | ((with_reducible refine gate_builtin (b := .append) (xs := #[.tmp 39, .tmp 41]) rfl ?_); (try (refine gate_guard (by rfl) ?_; dsimp only)); at_builtin; refine Kd.R_append (Kd.int .i64) w.heap.size rfl (.tmp 39) (.tmp 41) 22 3 (.int .i64 0) 8 rfl Try.underlying22 info3 rfl (by decide) (by omega) u5 x5_4 t533 [.int .i64 t533] (fun _ => True) (fun _ => False) rfl rfl ?aP (fun _ hk => hk.elim) ?aF ?aO (Below.refl _ _) ?aS ?aL ?_; (case aP => exact rfl); (case aF => exact (fun _ _ => trivial)); (case aO => exact (by exact HO_5.out)); (case aS => exact (keep_size (w := w) (g := g) (row := none) (by exact HK.out))); (case aL => have := LMc19.out; omega); intro v540 w20 ho hb hg hat; rw [← Ny539.out] at ho; have n0_ := Aside0.mk (IsS75.grown (by exact HI0.out) hg (IsS75.own_ne HI0.out HO_5.out (by decide))); have n1_ := Aside0.mk (below_weaken (by exact HB.out) HL.out hb); have n2_ := Aside0.mk (KeepBut.trans (by exact HK.out) (KeepBut.of_grown hg g) (Kd.R_base2 HO_5.out)); have n3_ := Aside0.mk (ho); clear HI0; clear HB; clear HK; clear HO_5; have HI0 := n0_; have HB := n1_; have HK := n2_; have HO541 := n3_; clear n0_ n1_ n2_ n3_; clear ho hb hg hat))
             go_roundg k4
             case measure => have := HK1.out; have := HJ2.out; have := HJ10.out; have := HK4.out; omega
             case rel => exact ⟨(y539), (wrap64 (x37_4 + 1)), (by rfl), H', ⟨by have := HK1.out; have := HJ2.out; have := HJ10.out; have := HK4.out; omega⟩, ⟨by exact HO541.out⟩, ⟨by exact HI0.out⟩, ⟨by exact HK.out⟩, ⟨by exact HB.out⟩⟩
            ·rw [if_neg c19] at H
             exact absurd H (by simp)
           ·rw [if_neg c18] at H
            have c18b0 : decide (x37_4 < t536) = false := decide_eq_false c18
            clear c18
            have H' := Aside0.mk H
            clear H
            go_wp2
            go_roundg k4
            case measure => have := HK1.out; have := HJ2.out; have := HJ10.out; have := HK4.out; omega
            case rel => exact ⟨(x5_4), (t537), (t538), H', ⟨by have := HK1.out; have := HJ2.out; have := HJ10.out; have := HK4.out; omega⟩, ⟨by exact HO_5.out⟩, ⟨by exact HI0.out⟩, ⟨by exact HK.out⟩, ⟨by exact HB.out⟩⟩
     ·replace c8 := Bool.eq_false_iff.mpr c8
      subst c8
      have H1 : (some (x5_1, x1000_1, x1001_1)) = some (r1, r2, r3) := by rw [if_neg (show ¬ (false = true) by decide)] at H; exact H
      clear H
      have H := H1
      clear H1
      simp only [Option.some.injEq, Prod.mk.injEq] at H
      obtain ⟨rfl, rfl, rfl⟩ := H
      go_wp2
      go_ret
      exact ⟨_, by rfl, by exact HO_5.out, by exact HI0.out, by exact HB.out, by exact HK.out⟩

end Go.Proofs.Ythhdihnaicggiaa.I
