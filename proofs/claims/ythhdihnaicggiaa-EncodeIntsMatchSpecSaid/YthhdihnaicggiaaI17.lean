/- Printed by a program of this session (wip/tools/printh.py over the kit's printer): Lean functions that answer as the Go functions do, with the proofs of it. No conditions beyond those in each theorem. -/
import Derived.Test.YthhdihnaicggiaaI0
import Derived.Test.YthhdihnaicggiaaI13
import Derived.Test.YthhdihnaicggiaaI14
import Derived.Test.YthhdihnaicggiaaI15
import Derived.Test.YthhdihnaicggiaaI16
namespace Go.Proofs.Ythhdihnaicggiaa.I
open Go.RowKit Go.Proofs.YthhdihnaicggiaaW.PrintWords Go.Proofs.YthhdihnaicggiaaW.PrintLast Go.Proofs.YthhdihnaicggiaaW.PrintMore
attribute [local go_sem] max2_int min2_int max_two min_two max_three min_three max_four min_four   -- for this text's walks alone
set_option linter.unusedVariables false
set_option linter.unusedSimpArgs false

/-! ### peristyleref2_reader_values: function 64 -/
mutual
def peristyleref2_reader_values.l0 : Nat → Int → List Int → List Int → Bool → Option (List Int × List Int × Bool)
 | 0, _, _, _, _ => none
 | k + 1, x2, x7, x1000, x1001 => if (x7.length : Int) < x2 then (if x1001 = true then (some (x7, x1000, x1001)) else ((peristyleref2_reader_number.f k x1000 x1001).bind fun bt582 => (if x7.length < 17592186044416 then (peristyleref2_reader_values.l0 k x2 (x7 ++ [bt582.1]) bt582.2.1 bt582.2.2) else (none)))) else (some (x7, x1000, x1001))
def peristyleref2_reader_values.l1 : Nat → List Int → Int → List Int → Int → Int → List Int → Bool → Option (List Int × List Int × Bool)
 | 0, _, _, _, _, _, _, _ => none
 | k + 1, x7, x8, x54, x55, x56, x1000, x1001 => if x56 < x55 then (if 0 ≤ x56 then (if x56 < (x54.length : Int) then (if x7.length < 17592186044416 then (peristyleref2_reader_values.l1 k (x7 ++ [wrap64 (x8 + (rd x54 x56))]) x8 x54 x55 (wrap64 (x56 + 1)) x1000 x1001) else (none)) else (none)) else (none)) else (some (x7, x1000, x1001))
def peristyleref2_reader_values.l2 : Nat → Int → List Int → Int → List Int → Bool → Option (List Int × List Int × Bool)
 | 0, _, _, _, _, _ => none
 | k + 1, x2, x7, x12, x1000, x1001 => if (x7.length : Int) < x2 then (if x1001 = true then (some (x7, x1000, x1001)) else ((peristyleref2_reader_number.f k x1000 x1001).bind fun bt613 => (if x7.length < 17592186044416 then (peristyleref2_reader_values.l2 k x2 (x7 ++ [wrap64 (x12 + bt613.1)]) (wrap64 (x12 + bt613.1)) bt613.2.1 bt613.2.2) else (none)))) else (some (x7, x1000, x1001))
end
def peristyleref2_reader_values.f (k : Nat) (s0_0 : List Int) (s0_1 : Bool) (a1 : Int) (a2 : Int) : Option (List Int × List Int × Bool) := if a1 = 1 then (peristyleref2_reader_values.l0 k a2 ([] : List Int) s0_0 s0_1) else (if a1 = 2 then ((peristyleref2_reader_runs.f k s0_0 s0_1 a2).bind fun bt588 => (some (bt588.1, bt588.2.1, bt588.2.2))) else (if a1 = 3 then ((peristyleref2_reader_dict.f k s0_0 s0_1 a2).bind fun bt593 => (some (bt593.1, bt593.2.1, bt593.2.2))) else (if a1 = 4 then ((peristyleref2_reader_number.f k s0_0 s0_1).bind fun bt598 => ((peristyleref2_reader_byte.f bt598.2.1 bt598.2.2).bind fun bt601 => ((peristyleref2_reader_unpacked.f k bt601.2.1 bt601.2.2 a2 bt601.1).bind fun bt604 => (peristyleref2_reader_values.l1 k ([] : List Int) bt598.1 bt604.1 (bt604.1.length : Int) 0 bt604.2.1 bt604.2.2)))) else (if a1 = 5 then (peristyleref2_reader_values.l2 k a2 ([] : List Int) 0 s0_0 s0_1) else (some (([] : List Int), s0_0, true))))))
theorem peristyleref2_reader_values.mono_l : ∀ k, (∀ y0 y1 y2 y3, LeO (peristyleref2_reader_values.l0 k y0 y1 y2 y3) (peristyleref2_reader_values.l0 (k + 1) y0 y1 y2 y3)) ∧ (∀ y0 y1 y2 y3 y4 y5 y6, LeO (peristyleref2_reader_values.l1 k y0 y1 y2 y3 y4 y5 y6) (peristyleref2_reader_values.l1 (k + 1) y0 y1 y2 y3 y4 y5 y6)) ∧ (∀ y0 y1 y2 y3 y4, LeO (peristyleref2_reader_values.l2 k y0 y1 y2 y3 y4) (peristyleref2_reader_values.l2 (k + 1) y0 y1 y2 y3 y4))
 | 0 => ⟨fun _ _ _ _ r h => by simp [peristyleref2_reader_values.l0] at h, fun _ _ _ _ _ _ _ r h => by simp [peristyleref2_reader_values.l1] at h, fun _ _ _ _ _ r h => by simp [peristyleref2_reader_values.l2] at h⟩
 | k + 1 => by
  obtain ⟨ih0, ih1, ih2⟩ := peristyleref2_reader_values.mono_l k
  refine ⟨?_, ?_, ?_⟩ <;> intros
  all_goals (first | unfold peristyleref2_reader_values.l0 | unfold peristyleref2_reader_values.l1 | unfold peristyleref2_reader_values.l2)
  all_goals
   repeat' first
   | (with_reducible exact ih0 _ _ _ _)
   | (with_reducible exact ih1 _ _ _ _ _ _ _)
   | (with_reducible exact ih2 _ _ _ _ _)
   | (with_reducible exact peristyleref2_reader_number.mono _ _ _)
   | (with_reducible exact LeO.refl _)
   | (with_reducible refine LeO.ite ?_ ?_)
   | (with_reducible refine LeO.bind ?_ (fun _ => ?_))
theorem peristyleref2_reader_values.mono : ∀ a0 a1 a2 a3 k, LeO (peristyleref2_reader_values.f k a0 a1 a2 a3) (peristyleref2_reader_values.f (k + 1) a0 a1 a2 a3) := by
 intro a0 a1 a2 a3 k
 obtain ⟨ih0, ih1, ih2⟩ := peristyleref2_reader_values.mono_l k
 unfold peristyleref2_reader_values.f
 repeat' first
  | (with_reducible exact ih0 _ _ _ _)
  | (with_reducible exact ih1 _ _ _ _ _ _ _)
  | (with_reducible exact ih2 _ _ _ _ _)
  | (with_reducible exact peristyleref2_reader_dict.mono _ _ _ _)
  | (with_reducible exact peristyleref2_reader_number.mono _ _ _)
  | (with_reducible exact peristyleref2_reader_runs.mono _ _ _ _)
  | (with_reducible exact peristyleref2_reader_unpacked.mono _ _ _ _ _)
  | (with_reducible exact LeO.refl _)
  | (with_reducible refine LeO.ite ?_ ?_)
  | (with_reducible refine LeO.bind ?_ (fun _ => ?_))
set_option maxHeartbeats 8000000 in
set_option maxRecDepth 100000 in
theorem peristyleref2_reader_values.calls (k : Nat) (g : Nat) (s0_0 : List Int) (s0_1 : Bool) (a1 : Int) (a2 : Int) (r1 : List Int) (r2 : List Int) (r3 : Bool) (w0 w : World) (hI : IsS75 w0 w g s0_0 s0_1) (hB : Below w0.heap.size w0 w) (h : peristyleref2_reader_values.f k s0_0 s0_1 a1 a2 = some (r1, r2, r3)) :
 Calls Try.prog 64 #[.pointer (some ⟨g, 0, none⟩), .int .i64 a1, .int .i64 a2] w fun e w' => ∃ v0_ : Value, e = .returned (v0_) ∧ Kd.R (Kd.int .i64) 3 w' w.heap.size (fun _ => True) v0_ r1 ∧ IsS75 w0 w' g r2 r3 ∧ Below w0.heap.size w0 w' ∧ KeepBut w w' g none := by
 have HI0 := Aside0.mk hI
 have HK := Aside0.mk (KeepBut.refl w g none)
 have HL := Aside0.mk hB.size
 clear hI
 have HW0 := Aside0.mk hB.size
 have HB := Aside0.mk hB
 have HBZ := Aside0.mk hB
 clear hB
 have H : (if a1 = 1 then (peristyleref2_reader_values.l0 k a2 ([] : List Int) s0_0 s0_1) else (if a1 = 2 then ((peristyleref2_reader_runs.f k s0_0 s0_1 a2).bind fun bt588 => (some (bt588.1, bt588.2.1, bt588.2.2))) else (if a1 = 3 then ((peristyleref2_reader_dict.f k s0_0 s0_1 a2).bind fun bt593 => (some (bt593.1, bt593.2.1, bt593.2.2))) else (if a1 = 4 then ((peristyleref2_reader_number.f k s0_0 s0_1).bind fun bt598 => ((peristyleref2_reader_byte.f bt598.2.1 bt598.2.2).bind fun bt601 => ((peristyleref2_reader_unpacked.f k bt601.2.1 bt601.2.2 a2 bt601.1).bind fun bt604 => (peristyleref2_reader_values.l1 k ([] : List Int) bt598.1 bt604.1 (bt604.1.length : Int) 0 bt604.2.1 bt604.2.2)))) else (if a1 = 5 then (peristyleref2_reader_values.l2 k a2 ([] : List Int) 0 s0_0 s0_1) else (some (([] : List Int), s0_0, true))))))) = some (r1, r2, r3) := h
 clear h
 by_cases c4 : a1 = 1
 ·rw [if_pos c4] at H
  have c4b0 : (a1 == 1) = true := beq_iff_eq.mpr c4
  have c4b1 : (a1 != 1) = false := bne_eq_false_iff_eq.mpr c4
  clear c4
  have H' := Aside0.mk H
  clear H
  go_enter Try.func64, Try.ntmps64
  go_wp2
  go_loopg [7] k (fun kq v7 w' => ∃ (x7_1 : List Int) (x1000_1 : List Int) (x1001_1 : Bool), Aside0 (peristyleref2_reader_values.l0 kq a2 x7_1 x1000_1 x1001_1 = some (r1, r2, r3)) ∧ Aside0 (kq ≤ k) ∧ Aside0 (Kd.R (Kd.int .i64) 3 w' w.heap.size (fun _ => True) v7 x7_1) ∧ Aside0 (IsS75 w0 w' g x1000_1 x1001_1) ∧ Aside0 (KeepBut w w' g none) ∧ Aside0 (Below w0.heap.size w0 w'))
  case atStart => exact ⟨(([] : List Int)), (s0_0), (s0_1), H', ⟨Nat.le_refl _⟩, ⟨by exact Kd.R_nil _ _ _ _ _⟩, ⟨by exact HI0.out⟩, ⟨by exact HK.out⟩, ⟨by exact HB.out⟩⟩
  case round =>
   clear H'
   try clear c4b0
   try clear c4b1
   obtain ⟨x7_1, x1000_1, x1001_1, HA, HK1, HO_7, HI0, HK, HB⟩ := hrel
   cases gk with
   | zero => exact absurd HA.out (by simp [peristyleref2_reader_values.l0])
   | succ k1 =>
    have H := HA.out
    clear HA
    simp only [peristyleref2_reader_values.l0] at H
    by_cases c5 : (x7_1.length : Int) < a2
    ·rw [if_pos c5] at H
     have c5b0 : decide ((x7_1.length : Int) < a2) = true := decide_eq_true c5
     clear c5
     by_cases c6 : x1001_1 = true
     ·subst c6
      have H1 : (some (x7_1, x1000_1, true)) = some (r1, r2, r3) := by rw [if_pos rfl] at H; exact H
      clear H
      have H := H1
      clear H1
      simp only [Option.some.injEq, Prod.mk.injEq] at H
      obtain ⟨rfl, rfl, rfl⟩ := H
      obtain ⟨Ao7, co7, eo7⟩ := Kd.R_slice HO_7.out
      subst eo7
      obtain ⟨ASz8_0, cSz8_0, HGz8, hgz8, HSz8_0⟩ := HI0.out
      have hcz8_0 := cellS75_0 HGz8
      have hcz8_1 := cellS75_1 HGz8
      have hfz8_0 := blk_frozen HGz8 0
      have hfz8_1 := blk_frozen HGz8 1
      have HCSz8_0 := HSz8_0.1
      replace HSz8_0 := HSz8_0.2
      clear HGz8 hgz8
      go_wp2
      go_ret
      exact ⟨_, by rfl, by exact HO_7.out, by exact HI0.out, by exact HB.out, by exact HK.out⟩
     ·replace c6 := Bool.eq_false_iff.mpr c6
      subst c6
      have H1 : ((peristyleref2_reader_number.f k1 x1000_1 false).bind fun bt582 => (if x7_1.length < 17592186044416 then (peristyleref2_reader_values.l0 k1 a2 (x7_1 ++ [bt582.1]) bt582.2.1 bt582.2.2) else (none))) = some (r1, r2, r3) := by rw [if_neg (show ¬ (false = true) by decide)] at H; exact H
      clear H
      have H := H1
      clear H1
      replace H := Option.bind_eq_some_iff.mp H
      obtain ⟨⟨t582, t583, t584⟩, A90, H⟩ := H
      replace H : (if x7_1.length < 17592186044416 then (peristyleref2_reader_values.l0 k1 a2 (x7_1 ++ [t582]) t583 t584) else (none)) = some (r1, r2, r3) := H
      have A9 := Aside0.mk A90
      clear A90
      by_cases c10 : x7_1.length < 17592186044416
      ·rw [if_pos c10] at H
       have LMc10 := Aside0.mk c10
       clear c10
       obtain ⟨y585, hy585⟩ : ∃ y_ : List Int, y_ = (x7_1 ++ [t582]) := ⟨_, rfl⟩
       replace H : (peristyleref2_reader_values.l0 k1 a2 y585 t583 t584) = some (r1, r2, r3) := by (rw [hy585]; with_reducible exact H)
       have Ny585 := Aside0.mk hy585
       clear hy585
       have H' := Aside0.mk H
       clear H
       obtain ⟨Ao11, co11, eo11⟩ := Kd.R_slice HO_7.out
       subst eo11
       obtain ⟨ASz12_0, cSz12_0, HGz12, hgz12, HSz12_0⟩ := HI0.out
       have hcz12_0 := cellS75_0 HGz12
       have hcz12_1 := cellS75_1 HGz12
       have hfz12_0 := blk_frozen HGz12 0
       have hfz12_1 := blk_frozen HGz12 1
       have HCSz12_0 := HSz12_0.1
       replace HSz12_0 := HSz12_0.2
       clear HGz12 hgz12
       go_wp2_with (first | ((with_reducible refine gate_callee (f := 86) rfl ?_); refine goesL_ (some 32) rfl rfl Try.func86 (by kernel_rfl) rfl #[.pointer (some ⟨g, 0, none⟩)] rfl (by (try simp only [List.map_toArray, List.map_cons, List.map_nil]); rfl) ?_; (with_reducible refine (peristyleref2_reader_number.calls k1 g x1000_1 false t582 t583 t584 w0 _ ?side1 ?side2 A9.out).mono ?_); (case side1 => exact HI0.out); (case side2 => exact HB.out); rintro e w13 ⟨rfl, hi, hb, hk⟩; refine ⟨_, rfl, ?_⟩; have n0_ := Aside0.mk (Kd.R_mono (Kd.R_keep (IsS75.apart (show IsS75 w0 _ g x1000_1 false from by exact HI0.out) (by exact HO_7.out) (by decide)) hk (fun _ h => h.2)) (fun _ h => h.1)); have n1_ := Aside0.mk (KeepBut.trans (by exact HK.out) hk (.inl rfl)); have n2_ := Aside0.mk (hb); have n3_ := Aside0.mk (hi); clear HO_7; clear HK; clear HB; clear HI0; have HO_7 := n0_; have HK := n1_; have HB := n2_; have HI0 := n3_; clear n0_ n1_ n2_ n3_; (try clear hb); (try clear hk); (try clear hi)) | ((with_reducible refine gate_builtin (b := .append) (xs := #[.tmp 30, .tmp 33]) rfl ?_); at_builtin; refine Kd.R_append (Kd.int .i64) w.heap.size rfl (.tmp 30) (.tmp 33) 22 3 (.int .i64 0) 8 rfl Try.underlying22 info3 rfl (by decide) (by omega) (.slice Ao11 x7_1.length co11) x7_1 t582 [.int .i64 t582] (fun _ => True) (fun _ => False) rfl rfl ?aP (fun _ hk => hk.elim) ?aF ?aO (Below.refl _ _) ?aS ?aL ?_; (case aP => exact rfl); (case aF => exact (fun _ _ => trivial)); (case aO => exact (by exact HO_7.out)); (case aS => exact (keep_size (w := w) (g := g) (row := none) (by exact HK.out))); (case aL => have := LMc10.out; omega); intro v586 w14 ho hb hg hat; rw [← Ny585.out] at ho; have n0_ := Aside0.mk (IsS75.grown (by exact HI0.out) hg (IsS75.own_ne HI0.out HO_7.out (by decide))); have n1_ := Aside0.mk (below_weaken (by exact HB.out) HL.out hb); have n2_ := Aside0.mk (KeepBut.trans (by exact HK.out) (KeepBut.of_grown hg g) (Kd.R_base2 HO_7.out)); have n3_ := Aside0.mk (ho); clear HI0; clear HB; clear HK; clear HO_7; have HI0 := n0_; have HB := n1_; have HK := n2_; have HO587 := n3_; clear n0_ n1_ n2_ n3_; clear ho hb hg hat))
       go_roundg k1
       case measure => have := HK1.out; omega
       case rel => exact ⟨(y585), (t583), (t584), H', ⟨by have := HK1.out; omega⟩, ⟨by exact HO587.out⟩, ⟨by exact HI0.out⟩, ⟨by exact HK.out⟩, ⟨by exact HB.out⟩⟩
      ·rw [if_neg c10] at H
       exact absurd H (by simp)
    ·rw [if_neg c5] at H
     have c5b0 : decide ((x7_1.length : Int) < a2) = false := decide_eq_false c5
     clear c5
     simp only [Option.some.injEq, Prod.mk.injEq] at H
     obtain ⟨rfl, rfl, rfl⟩ := H
     obtain ⟨Ao15, co15, eo15⟩ := Kd.R_slice HO_7.out
     subst eo15
     go_wp2
     go_ret
     exact ⟨_, by rfl, by exact HO_7.out, by exact HI0.out, by exact HB.out, by exact HK.out⟩
 ·rw [if_neg c4] at H
  have c4b0 : (a1 == 1) = false := beq_eq_false_iff_ne.mpr c4
  have c4b1 : (a1 != 1) = true := bne_iff_ne.mpr c4
  by_cases c16 : a1 = 2
  ·rw [if_pos c16] at H
   have c16b0 : (a1 == 2) = true := beq_iff_eq.mpr c16
   have c16b1 : (a1 != 2) = false := bne_eq_false_iff_eq.mpr c16
   clear c16
   replace H := Option.bind_eq_some_iff.mp H
   obtain ⟨⟨t588, t591, t592⟩, A170, H⟩ := H
   replace H : (some (t588, t591, t592)) = some (r1, r2, r3) := H
   have A17 := Aside0.mk A170
   clear A170
   simp only [Option.some.injEq, Prod.mk.injEq] at H
   obtain ⟨rfl, rfl, rfl⟩ := H
   go_enter Try.func64, Try.ntmps64
   go_wp2_with (first | ((with_reducible refine gate_callee (f := 87) rfl ?_); refine goesL_ (some 39) rfl rfl Try.func87 (by kernel_rfl) rfl #[.pointer (some ⟨g, 0, none⟩), .int .i64 a2] rfl (by (try simp only [List.map_toArray, List.map_cons, List.map_nil]); rfl) ?_; (with_reducible refine (peristyleref2_reader_runs.calls k g s0_0 s0_1 a2 t588 t591 t592 w0 _ ?side1 ?side2 A17.out).mono ?_); (case side1 => exact HI0.out); (case side2 => exact HB.out); rintro e w18 ⟨v589, rfl, ho0, hi, hb, hk⟩; refine ⟨_, rfl, ?_⟩; have n0_ := Aside0.mk (Kd.R_lower ho0 (keep_size (w := w) (g := g) (row := none) (by exact HK.out))); have n1_ := Aside0.mk (KeepBut.trans (by exact HK.out) hk (.inl rfl)); have n2_ := Aside0.mk (hb); have n3_ := Aside0.mk (hi); clear HK; clear HB; clear HI0; have HO590 := n0_; have HK := n1_; have HB := n2_; have HI0 := n3_; clear n0_ n1_ n2_ n3_; (try clear hb); (try clear hk); (try clear hi); (try clear ho0)))
   go_ret
   exact ⟨_, by rfl, by exact HO590.out, by exact HI0.out, by exact HB.out, by exact HK.out⟩
  ·rw [if_neg c16] at H
   have c16b0 : (a1 == 2) = false := beq_eq_false_iff_ne.mpr c16
   have c16b1 : (a1 != 2) = true := bne_iff_ne.mpr c16
   by_cases c19 : a1 = 3
   ·rw [if_pos c19] at H
    have c19b0 : (a1 == 3) = true := beq_iff_eq.mpr c19
    have c19b1 : (a1 != 3) = false := bne_eq_false_iff_eq.mpr c19
    clear c19
    replace H := Option.bind_eq_some_iff.mp H
    obtain ⟨⟨t593, t596, t597⟩, A200, H⟩ := H
    replace H : (some (t593, t596, t597)) = some (r1, r2, r3) := H
    have A20 := Aside0.mk A200
    clear A200
    simp only [Option.some.injEq, Prod.mk.injEq] at H
    obtain ⟨rfl, rfl, rfl⟩ := H
    go_enter Try.func64, Try.ntmps64
    go_wp2_with (first | ((with_reducible refine gate_callee (f := 88) rfl ?_); refine goesL_ (some 44) rfl rfl Try.func88 (by kernel_rfl) rfl #[.pointer (some ⟨g, 0, none⟩), .int .i64 a2] rfl (by (try simp only [List.map_toArray, List.map_cons, List.map_nil]); rfl) ?_; (with_reducible refine (peristyleref2_reader_dict.calls k g s0_0 s0_1 a2 t593 t596 t597 w0 _ ?side1 ?side2 A20.out).mono ?_); (case side1 => exact HI0.out); (case side2 => exact HB.out); rintro e w21 ⟨v594, rfl, ho0, hi, hb, hk⟩; refine ⟨_, rfl, ?_⟩; have n0_ := Aside0.mk (Kd.R_lower ho0 (keep_size (w := w) (g := g) (row := none) (by exact HK.out))); have n1_ := Aside0.mk (KeepBut.trans (by exact HK.out) hk (.inl rfl)); have n2_ := Aside0.mk (hb); have n3_ := Aside0.mk (hi); clear HK; clear HB; clear HI0; have HO595 := n0_; have HK := n1_; have HB := n2_; have HI0 := n3_; clear n0_ n1_ n2_ n3_; (try clear hb); (try clear hk); (try clear hi); (try clear ho0)))
    go_ret
    exact ⟨_, by rfl, by exact HO595.out, by exact HI0.out, by exact HB.out, by exact HK.out⟩
   ·rw [if_neg c19] at H
    have c19b0 : (a1 == 3) = false := beq_eq_false_iff_ne.mpr c19
    have c19b1 : (a1 != 3) = true := bne_iff_ne.mpr c19
    by_cases c22 : a1 = 4
    ·rw [if_pos c22] at H
     have c22b0 : (a1 == 4) = true := beq_iff_eq.mpr c22
     have c22b1 : (a1 != 4) = false := bne_eq_false_iff_eq.mpr c22
     clear c22
     replace H := Option.bind_eq_some_iff.mp H
     obtain ⟨⟨t598, t599, t600⟩, A230, H⟩ := H
     replace H : ((peristyleref2_reader_byte.f t599 t600).bind fun bt601 => ((peristyleref2_reader_unpacked.f k bt601.2.1 bt601.2.2 a2 bt601.1).bind fun bt604 => (peristyleref2_reader_values.l1 k ([] : List Int) t598 bt604.1 (bt604.1.length : Int) 0 bt604.2.1 bt604.2.2))) = some (r1, r2, r3) := H
     have A23 := Aside0.mk A230
     clear A230
     replace H := Option.bind_eq_some_iff.mp H
     obtain ⟨⟨t601, t602, t603⟩, A240, H⟩ := H
     replace H : ((peristyleref2_reader_unpacked.f k t602 t603 a2 t601).bind fun bt604 => (peristyleref2_reader_values.l1 k ([] : List Int) t598 bt604.1 (bt604.1.length : Int) 0 bt604.2.1 bt604.2.2)) = some (r1, r2, r3) := H
     have A24 := Aside0.mk A240
     clear A240
     replace H := Option.bind_eq_some_iff.mp H
     obtain ⟨⟨t604, t607, t608⟩, A250, H⟩ := H
     replace H : (peristyleref2_reader_values.l1 k ([] : List Int) t598 t604 (t604.length : Int) 0 t607 t608) = some (r1, r2, r3) := H
     have A25 := Aside0.mk A250
     clear A250
     have H' := Aside0.mk H
     clear H
     go_enter Try.func64, Try.ntmps64
     go_wp2_with (first | ((with_reducible refine gate_callee (f := 86) rfl ?_); refine goesL_ (some 48) rfl rfl Try.func86 (by kernel_rfl) rfl #[.pointer (some ⟨g, 0, none⟩)] rfl (by (try simp only [List.map_toArray, List.map_cons, List.map_nil]); rfl) ?_; (with_reducible refine (peristyleref2_reader_number.calls k g s0_0 s0_1 t598 t599 t600 w0 _ ?side1 ?side2 A23.out).mono ?_); (case side1 => exact HI0.out); (case side2 => exact HB.out); rintro e w26 ⟨rfl, hi, hb, hk⟩; refine ⟨_, rfl, ?_⟩; have n0_ := Aside0.mk (KeepBut.trans (by exact HK.out) hk (.inl rfl)); have n1_ := Aside0.mk (hb); have n2_ := Aside0.mk (hi); clear HK; clear HB; clear HI0; have HK := n0_; have HB := n1_; have HI0 := n2_; clear n0_ n1_ n2_; (try clear hb); (try clear hk); (try clear hi)) | ((with_reducible refine gate_callee (f := 59) rfl ?_); refine goesL_ (some 50) rfl rfl Try.func59 (by kernel_rfl) rfl #[.pointer (some ⟨g, 0, none⟩)] rfl (by (try simp only [List.map_toArray, List.map_cons, List.map_nil]); rfl) ?_; (with_reducible refine (peristyleref2_reader_byte.calls g t599 t600 t601 t602 t603 w0 _ ?side1 ?side2 A24.out).mono ?_); (case side1 => exact HI0.out); (case side2 => exact HB.out); rintro e w27 ⟨rfl, hi, hb, hk⟩; refine ⟨_, rfl, ?_⟩; have n0_ := Aside0.mk (KeepBut.trans (by exact HK.out) hk (.inl rfl)); have n1_ := Aside0.mk (hb); have n2_ := Aside0.mk (hi); clear HK; clear HB; clear HI0; have HK := n0_; have HB := n1_; have HI0 := n2_; clear n0_ n1_ n2_; (try clear hb); (try clear hk); (try clear hi)) | ((with_reducible refine gate_callee (f := 89) rfl ?_); refine goesL_ (some 54) rfl rfl Try.func89 (by kernel_rfl) rfl #[.pointer (some ⟨g, 0, none⟩), .int .i64 a2, .int .i64 t601] rfl (by (try simp only [List.map_toArray, List.map_cons, List.map_nil]); rfl) ?_; (with_reducible refine (peristyleref2_reader_unpacked.calls k g t602 t603 a2 t601 t604 t607 t608 w0 _ ?side1 ?side2 A25.out).mono ?_); (case side1 => exact HI0.out); (case side2 => exact HB.out); rintro e w28 ⟨v605, rfl, ho0, hi, hb, hk⟩; refine ⟨_, rfl, ?_⟩; have n0_ := Aside0.mk (Kd.R_lower ho0 (keep_size (w := w) (g := g) (row := none) (by exact HK.out))); have n1_ := Aside0.mk (KeepBut.trans (by exact HK.out) hk (.inl rfl)); have n2_ := Aside0.mk (hb); have n3_ := Aside0.mk (hi); clear HK; clear HB; clear HI0; have HO606 := n0_; have HK := n1_; have HB := n2_; have HI0 := n3_; clear n0_ n1_ n2_ n3_; (try clear hb); (try clear hk); (try clear hi); (try clear ho0); obtain ⟨Ao29, co29, eo29⟩ := Kd.R_slice HO606.out; subst eo29))
     go_loopg [7, 56] k (fun kq v7 v56 w' => ∃ (x7_1 : List Int) (x56_1 : Int), v56 = .int .i64 x56_1 ∧ Aside0 (peristyleref2_reader_values.l1 kq x7_1 t598 t604 (t604.length : Int) x56_1 t607 t608 = some (r1, r2, r3)) ∧ Aside0 (kq ≤ k) ∧ Aside0 (Kd.R (Kd.int .i64) 3 w' w.heap.size (fun k_ => some k_ ≠ ((.slice Ao29 t604.length co29) : Value).ownBlock) v7 x7_1) ∧ Aside0 (Kd.R (Kd.int .i64) 3 w' w.heap.size (fun k_ => some k_ ≠ (v7 : Value).ownBlock) (.slice Ao29 t604.length co29) t604) ∧ Aside0 (IsS75 w0 w' g t607 t608) ∧ Aside0 (KeepBut w w' g none) ∧ Aside0 (Below w0.heap.size w0 w'))
     case atStart => exact ⟨(([] : List Int)), (0), (by rfl), H', ⟨Nat.le_refl _⟩, ⟨by exact Kd.R_nil _ _ _ _ _⟩, ⟨by exact Kd.R_mono HO606.out (fun _ hk => (by simp [Value.ownBlock]))⟩, ⟨by exact HI0.out⟩, ⟨by exact HK.out⟩, ⟨by exact HB.out⟩⟩
     case round =>
      clear H'
      try clear c4
      try clear c4b0
      try clear c4b1
      try clear c16
      try clear c16b0
      try clear c16b1
      try clear c19
      try clear c19b0
      try clear c19b1
      try clear c22b0
      try clear c22b1
      obtain ⟨x7_1, x56_1, rfl, HA, HK1, HO_7, HO_54, HI0, HK, HB⟩ := hrel
      cases gk with
      | zero => exact absurd HA.out (by simp [peristyleref2_reader_values.l1])
      | succ k1 =>
       have H := HA.out
       clear HA
       simp only [peristyleref2_reader_values.l1] at H
       by_cases c30 : x56_1 < (t604.length : Int)
       ·rw [if_pos c30] at H
        have c30b0 : decide (x56_1 < (t604.length : Int)) = true := decide_eq_true c30
        clear c30
        by_cases c31 : 0 ≤ x56_1
        ·rw [if_pos c31] at H
         have c31b0 : decide (0 ≤ x56_1) = true := decide_eq_true c31
         clear c31
         by_cases c32 : x56_1 < (t604.length : Int)
         ·rw [if_pos c32] at H
          have c32b0 : decide (x56_1 < (t604.length : Int)) = true := decide_eq_true c32
          clear c32
          by_cases c33 : x7_1.length < 17592186044416
          ·rw [if_pos c33] at H
           have LMc33 := Aside0.mk c33
           clear c33
           obtain ⟨y610, hy610⟩ : ∃ y_ : List Int, y_ = (x7_1 ++ [wrap64 (t598 + (rd t604 x56_1))]) := ⟨_, rfl⟩
           replace H : (peristyleref2_reader_values.l1 k1 y610 t598 t604 (t604.length : Int) (wrap64 (x56_1 + 1)) t607 t608) = some (r1, r2, r3) := by (rw [hy610]; with_reducible exact H)
           have Ny610 := Aside0.mk hy610
           clear hy610
           have H' := Aside0.mk H
           clear H
           have p609 : 0 ≤ (x56_1 : Int) := of_decide_eq_true (by (with_reducible assumption))
           have q609 : x56_1 < (t604.length : Int) := of_decide_eq_true (by (with_reducible assumption))
           obtain ⟨ad609, e609, hx609_0⟩ := Kd.at_int (Kd.R_reads' HO_54.out).2.2 x56_1 p609 q609
           cases e609
           replace p609 := eq_true p609
           replace q609 := eq_true q609
           go_wp2_with (first | ((with_reducible refine gate_builtin (b := .append) (xs := #[.tmp 60, .tmp 64]) rfl ?_); at_builtin; refine Kd.R_append (Kd.int .i64) w.heap.size rfl (.tmp 60) (.tmp 64) 22 3 (.int .i64 0) 8 rfl Try.underlying22 info3 rfl (by decide) (by omega) u7 x7_1 (wrap64 (t598 + (rd t604 x56_1))) [.int .i64 (wrap64 (t598 + (rd t604 x56_1)))] (fun k_ => some k_ ≠ (.slice (some ad609) t604.length co29 : Value).ownBlock) (fun _ => False) rfl rfl ?aP (fun _ hk => hk.elim) ?aF ?aO (Below.refl _ _) ?aS ?aL ?_; (case aP => exact rfl); (case aF => exact (fun k_ hk => Kd.fresh' (Kd.R_lt (by exact HO_54.out)) k_ hk)); (case aO => exact (by exact HO_7.out)); (case aS => exact (keep_size (w := w) (g := g) (row := none) (by exact HK.out))); (case aL => have := LMc33.out; omega); intro v611 w34 ho hb hg hat; rw [← Ny610.out] at ho; have n0_ := Aside0.mk (Kd.R_after (ok := (fun _ => True)) (by exact Kd.R_mono HO_54.out (fun _ hk => ⟨trivial, hk⟩)) hg hat); have n1_ := Aside0.mk (IsS75.grown (by exact HI0.out) hg (IsS75.own_ne HI0.out HO_7.out (by decide))); have n2_ := Aside0.mk (below_weaken (by exact HB.out) HL.out hb); have n3_ := Aside0.mk (KeepBut.trans (by exact HK.out) (KeepBut.of_grown hg g) (Kd.R_base2 HO_7.out)); have n4_ := Aside0.mk (ho); clear HO_54; clear HI0; clear HB; clear HK; clear HO_7; have HO_54 := n0_; have HI0 := n1_; have HB := n2_; have HK := n3_; have HO612 := n4_; clear n0_ n1_ n2_ n3_ n4_; clear ho hb hg hat))
           go_roundg k1
           case measure => have := HK1.out; omega
           case rel => exact ⟨(y610), (wrap64 (x56_1 + 1)), (by rfl), H', ⟨by have := HK1.out; omega⟩, ⟨by exact HO612.out⟩, ⟨by exact Kd.R_mono HO_54.out (fun _ hk => hk.2)⟩, ⟨by exact HI0.out⟩, ⟨by exact HK.out⟩, ⟨by exact HB.out⟩⟩
          ·rw [if_neg c33] at H
           exact absurd H (by simp)
         ·rw [if_neg c32] at H
          exact absurd H (by simp)
        ·rw [if_neg c31] at H
         exact absurd H (by simp)
       ·rw [if_neg c30] at H
        have c30b0 : decide (x56_1 < (t604.length : Int)) = false := decide_eq_false c30
        clear c30
        simp only [Option.some.injEq, Prod.mk.injEq] at H
        obtain ⟨rfl, rfl, rfl⟩ := H
        go_wp2
        go_ret
        exact ⟨_, by rfl, by exact Kd.R_mono HO_7.out (fun _ hk => trivial), by exact HI0.out, by exact HB.out, by exact HK.out⟩
    ·rw [if_neg c22] at H
     have c22b0 : (a1 == 4) = false := beq_eq_false_iff_ne.mpr c22
     have c22b1 : (a1 != 4) = true := bne_iff_ne.mpr c22
     by_cases c35 : a1 = 5
     ·rw [if_pos c35] at H
      have c35b0 : (a1 == 5) = true := beq_iff_eq.mpr c35
      have c35b1 : (a1 != 5) = false := bne_eq_false_iff_eq.mpr c35
      clear c35
      have H' := Aside0.mk H
      clear H
      go_enter Try.func64, Try.ntmps64
      go_wp2
      go_loopg [7, 12] k (fun kq v7 v12 w' => ∃ (x7_1 : List Int) (x12_1 : Int) (x1000_1 : List Int) (x1001_1 : Bool), v12 = .int .i64 x12_1 ∧ Aside0 (peristyleref2_reader_values.l2 kq a2 x7_1 x12_1 x1000_1 x1001_1 = some (r1, r2, r3)) ∧ Aside0 (kq ≤ k) ∧ Aside0 (Kd.R (Kd.int .i64) 3 w' w.heap.size (fun _ => True) v7 x7_1) ∧ Aside0 (IsS75 w0 w' g x1000_1 x1001_1) ∧ Aside0 (KeepBut w w' g none) ∧ Aside0 (Below w0.heap.size w0 w'))
      case atStart => exact ⟨(([] : List Int)), (0), (s0_0), (s0_1), (by rfl), H', ⟨Nat.le_refl _⟩, ⟨by exact Kd.R_nil _ _ _ _ _⟩, ⟨by exact HI0.out⟩, ⟨by exact HK.out⟩, ⟨by exact HB.out⟩⟩
      case round =>
       clear H'
       try clear c4
       try clear c4b0
       try clear c4b1
       try clear c16
       try clear c16b0
       try clear c16b1
       try clear c19
       try clear c19b0
       try clear c19b1
       try clear c22
       try clear c22b0
       try clear c22b1
       try clear c35b0
       try clear c35b1
       obtain ⟨x7_1, x12_1, x1000_1, x1001_1, rfl, HA, HK1, HO_7, HI0, HK, HB⟩ := hrel
       cases gk with
       | zero => exact absurd HA.out (by simp [peristyleref2_reader_values.l2])
       | succ k1 =>
        have H := HA.out
        clear HA
        simp only [peristyleref2_reader_values.l2] at H
        by_cases c36 : (x7_1.length : Int) < a2
        ·rw [if_pos c36] at H
         have c36b0 : decide ((x7_1.length : Int) < a2) = true := decide_eq_true c36
         clear c36
         by_cases c37 : x1001_1 = true
         ·subst c37
          have H1 : (some (x7_1, x1000_1, true)) = some (r1, r2, r3) := by rw [if_pos rfl] at H; exact H
          clear H
          have H := H1
          clear H1
          simp only [Option.some.injEq, Prod.mk.injEq] at H
          obtain ⟨rfl, rfl, rfl⟩ := H
          obtain ⟨Ao38, co38, eo38⟩ := Kd.R_slice HO_7.out
          subst eo38
          obtain ⟨ASz39_0, cSz39_0, HGz39, hgz39, HSz39_0⟩ := HI0.out
          have hcz39_0 := cellS75_0 HGz39
          have hcz39_1 := cellS75_1 HGz39
          have hfz39_0 := blk_frozen HGz39 0
          have hfz39_1 := blk_frozen HGz39 1
          have HCSz39_0 := HSz39_0.1
          replace HSz39_0 := HSz39_0.2
          clear HGz39 hgz39
          go_wp2
          go_ret
          exact ⟨_, by rfl, by exact HO_7.out, by exact HI0.out, by exact HB.out, by exact HK.out⟩
         ·replace c37 := Bool.eq_false_iff.mpr c37
          subst c37
          have H1 : ((peristyleref2_reader_number.f k1 x1000_1 false).bind fun bt613 => (if x7_1.length < 17592186044416 then (peristyleref2_reader_values.l2 k1 a2 (x7_1 ++ [wrap64 (x12_1 + bt613.1)]) (wrap64 (x12_1 + bt613.1)) bt613.2.1 bt613.2.2) else (none))) = some (r1, r2, r3) := by rw [if_neg (show ¬ (false = true) by decide)] at H; exact H
          clear H
          have H := H1
          clear H1
          replace H := Option.bind_eq_some_iff.mp H
          obtain ⟨⟨t613, t614, t615⟩, A400, H⟩ := H
          replace H : (if x7_1.length < 17592186044416 then (peristyleref2_reader_values.l2 k1 a2 (x7_1 ++ [wrap64 (x12_1 + t613)]) (wrap64 (x12_1 + t613)) t614 t615) else (none)) = some (r1, r2, r3) := H
          have A40 := Aside0.mk A400
          clear A400
          by_cases c41 : x7_1.length < 17592186044416
          ·rw [if_pos c41] at H
           have LMc41 := Aside0.mk c41
           clear c41
           obtain ⟨y616, hy616⟩ : ∃ y_ : List Int, y_ = (x7_1 ++ [wrap64 (x12_1 + t613)]) := ⟨_, rfl⟩
           replace H : (peristyleref2_reader_values.l2 k1 a2 y616 (wrap64 (x12_1 + t613)) t614 t615) = some (r1, r2, r3) := by (rw [hy616]; with_reducible exact H)
           have Ny616 := Aside0.mk hy616
           clear hy616
           have H' := Aside0.mk H
           clear H
           obtain ⟨Ao42, co42, eo42⟩ := Kd.R_slice HO_7.out
           subst eo42
           obtain ⟨ASz43_0, cSz43_0, HGz43, hgz43, HSz43_0⟩ := HI0.out
           have hcz43_0 := cellS75_0 HGz43
           have hcz43_1 := cellS75_1 HGz43
           have hfz43_0 := blk_frozen HGz43 0
           have hfz43_1 := blk_frozen HGz43 1
           have HCSz43_0 := HSz43_0.1
           replace HSz43_0 := HSz43_0.2
           clear HGz43 hgz43
           go_wp2_with (first | ((with_reducible refine gate_callee (f := 86) rfl ?_); refine goesL_ (some 82) rfl rfl Try.func86 (by kernel_rfl) rfl #[.pointer (some ⟨g, 0, none⟩)] rfl (by (try simp only [List.map_toArray, List.map_cons, List.map_nil]); rfl) ?_; (with_reducible refine (peristyleref2_reader_number.calls k1 g x1000_1 false t613 t614 t615 w0 _ ?side1 ?side2 A40.out).mono ?_); (case side1 => exact HI0.out); (case side2 => exact HB.out); rintro e w44 ⟨rfl, hi, hb, hk⟩; refine ⟨_, rfl, ?_⟩; have n0_ := Aside0.mk (Kd.R_mono (Kd.R_keep (IsS75.apart (show IsS75 w0 _ g x1000_1 false from by exact HI0.out) (by exact HO_7.out) (by decide)) hk (fun _ h => h.2)) (fun _ h => h.1)); have n1_ := Aside0.mk (KeepBut.trans (by exact HK.out) hk (.inl rfl)); have n2_ := Aside0.mk (hb); have n3_ := Aside0.mk (hi); clear HO_7; clear HK; clear HB; clear HI0; have HO_7 := n0_; have HK := n1_; have HB := n2_; have HI0 := n3_; clear n0_ n1_ n2_ n3_; (try clear hb); (try clear hk); (try clear hi)) | ((with_reducible refine gate_builtin (b := .append) (xs := #[.tmp 84, .tmp 86]) rfl ?_); at_builtin; refine Kd.R_append (Kd.int .i64) w.heap.size rfl (.tmp 84) (.tmp 86) 22 3 (.int .i64 0) 8 rfl Try.underlying22 info3 rfl (by decide) (by omega) (.slice Ao42 x7_1.length co42) x7_1 (wrap64 (x12_1 + t613)) [.int .i64 (wrap64 (x12_1 + t613))] (fun _ => True) (fun _ => False) rfl rfl ?aP (fun _ hk => hk.elim) ?aF ?aO (Below.refl _ _) ?aS ?aL ?_; (case aP => exact rfl); (case aF => exact (fun _ _ => trivial)); (case aO => exact (by exact HO_7.out)); (case aS => exact (keep_size (w := w) (g := g) (row := none) (by exact HK.out))); (case aL => have := LMc41.out; omega); intro v617 w45 ho hb hg hat; rw [← Ny616.out] at ho; have n0_ := Aside0.mk (IsS75.grown (by exact HI0.out) hg (IsS75.own_ne HI0.out HO_7.out (by decide))); have n1_ := Aside0.mk (below_weaken (by exact HB.out) HL.out hb); have n2_ := Aside0.mk (KeepBut.trans (by exact HK.out) (KeepBut.of_grown hg g) (Kd.R_base2 HO_7.out)); have n3_ := Aside0.mk (ho); clear HI0; clear HB; clear HK; clear HO_7; have HI0 := n0_; have HB := n1_; have HK := n2_; have HO618 := n3_; clear n0_ n1_ n2_ n3_; clear ho hb hg hat))
           go_roundg k1
           case measure => have := HK1.out; omega
           case rel => exact ⟨(y616), (wrap64 (x12_1 + t613)), (t614), (t615), (by rfl), H', ⟨by have := HK1.out; omega⟩, ⟨by exact HO618.out⟩, ⟨by exact HI0.out⟩, ⟨by exact HK.out⟩, ⟨by exact HB.out⟩⟩
          ·rw [if_neg c41] at H
           exact absurd H (by simp)
        ·rw [if_neg c36] at H
         have c36b0 : decide ((x7_1.length : Int) < a2) = false := decide_eq_false c36
         clear c36
         simp only [Option.some.injEq, Prod.mk.injEq] at H
         obtain ⟨rfl, rfl, rfl⟩ := H
         obtain ⟨Ao46, co46, eo46⟩ := Kd.R_slice HO_7.out
         subst eo46
         go_wp2
         go_ret
         exact ⟨_, by rfl, by exact HO_7.out, by exact HI0.out, by exact HB.out, by exact HK.out⟩
     ·rw [if_neg c35] at H
      have c35b0 : (a1 == 5) = false := beq_eq_false_iff_ne.mpr c35
      have c35b1 : (a1 != 5) = true := bne_iff_ne.mpr c35
      simp only [Option.some.injEq, Prod.mk.injEq] at H
      obtain ⟨rfl, rfl, rfl⟩ := H
      obtain ⟨ASz47_0, cSz47_0, HGz47, hgz47, HSz47_0⟩ := HI0.out
      have hcz47_0 := cellS75_0 HGz47
      have hcz47_1 := cellS75_1 HGz47
      have hfz47_0 := blk_frozen HGz47 0
      have hfz47_1 := blk_frozen HGz47 1
      have HCSz47_0 := HSz47_0.1
      replace HSz47_0 := HSz47_0.2
      clear HGz47 hgz47
      go_enter Try.func64, Try.ntmps64
      go_wp2
      go_ret
      exact ⟨_, by rfl, by exact Kd.R_nil _ _ _ _ _, by repeat ((with_reducible first | exact HI0.out | apply IsS75.set_1)), by repeat ((with_reducible first | exact HB.out | refine below_set ?_ (IsS75.ge HI0.out))), by repeat ((with_reducible first | exact HK.out | apply KeepBut.set_ ))⟩

end Go.Proofs.Ythhdihnaicggiaa.I
