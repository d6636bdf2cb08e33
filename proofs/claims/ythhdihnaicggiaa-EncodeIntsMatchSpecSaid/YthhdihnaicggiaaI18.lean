/- Printed by a program of this session (wip/tools/printh.py over the kit's printer): Lean functions that answer as the Go functions do, with the proofs of it. No conditions beyond those in each theorem. -/
import Derived.Test.YthhdihnaicggiaaI0
import Derived.Test.YthhdihnaicggiaaI4
import Derived.Test.YthhdihnaicggiaaI9
import Derived.Test.YthhdihnaicggiaaI13
import Derived.Test.YthhdihnaicggiaaI17
namespace Go.Proofs.Ythhdihnaicggiaa.I
open Go.RowKit Go.Proofs.YthhdihnaicggiaaW.PrintWords Go.Proofs.YthhdihnaicggiaaW.PrintLast Go.Proofs.YthhdihnaicggiaaW.PrintMore
attribute [local go_sem] max2_int min2_int max_two min_two max_three min_three max_four min_four   -- for this text's walks alone
set_option linter.unusedVariables false
set_option linter.unusedSimpArgs false

/-! ### peristyleref2_Decode: function 25 -/
mutual
def peristyleref2_Decode.j0 : Nat → List Int → Int → Int → Bool → List Int → Bool → Option (List Int × Int)
 | 0, _, _, _, _, _, _ => none
 | k + 1, x0, x5, x6, x27, x620000, x620001 => if x27 = true then (some (([] : List Int), 3)) else (if x6 > 0 then ((peristyleref2_reader_values.f k x620000 x620001 x5 x6).bind fun bt626 => (peristyleref2_Decode.j1 k x0 x5 bt626.1 bt626.2.1 bt626.2.2)) else (peristyleref2_Decode.j1 k x0 x5 ([] : List Int) x620000 x620001))
def peristyleref2_Decode.j1 : Nat → List Int → Int → List Int → List Int → Bool → Option (List Int × Int)
 | 0, _, _, _, _, _ => none
 | k + 1, x0, x5, x7, x620000, x620001 => if x620001 = true then (some (([] : List Int), 3)) else ((peristyleref2_Encode.f k x5 x7).bind fun bt631 => (if bt631.2 = 0 then ((slices_Equal_byte_byte.f k bt631.1 x0).bind fun t635 => (if t635 = true then (some (x7, 0)) else (some (([] : List Int), 3)))) else (some (([] : List Int), 3))))
end
def peristyleref2_Decode.f (k : Nat) (l0 : List Int) : Option (List Int × Int) := if (l0.length : Int) > 500000 then (some (([] : List Int), 2)) else ((peristyleref2_reader_byte.f l0 false).bind fun bt620 => ((peristyleref2_reader_count.f k bt620.2.1 bt620.2.2).bind fun bt623 => (if bt623.2.2 = true then (peristyleref2_Decode.j0 k l0 bt620.1 bt623.1 true bt623.2.1 bt623.2.2) else (peristyleref2_Decode.j0 k l0 bt620.1 bt623.1 (decide (bt623.1 > 2000)) bt623.2.1 bt623.2.2))))
theorem peristyleref2_Decode.mono_l : ∀ k, (∀ y0 y1 y2 y3 y4 y5, LeO (peristyleref2_Decode.j0 k y0 y1 y2 y3 y4 y5) (peristyleref2_Decode.j0 (k + 1) y0 y1 y2 y3 y4 y5)) ∧ (∀ y0 y1 y2 y3 y4, LeO (peristyleref2_Decode.j1 k y0 y1 y2 y3 y4) (peristyleref2_Decode.j1 (k + 1) y0 y1 y2 y3 y4))
 | 0 => ⟨fun _ _ _ _ _ _ r h => by simp [peristyleref2_Decode.j0] at h, fun _ _ _ _ _ r h => by simp [peristyleref2_Decode.j1] at h⟩
 | k + 1 => by
  obtain ⟨ih0, ih1⟩ := peristyleref2_Decode.mono_l k
  refine ⟨?_, ?_⟩ <;> intros
  all_goals (first | unfold peristyleref2_Decode.j0 | unfold peristyleref2_Decode.j1)
  all_goals
   repeat' first
   | (with_reducible exact ih1 _ _ _ _ _)
   | (with_reducible exact peristyleref2_Encode.mono _ _ _)
   | (with_reducible exact peristyleref2_reader_values.mono _ _ _ _ _)
   | (with_reducible exact slices_Equal_byte_byte.mono _ _ _)
   | (with_reducible exact LeO.refl _)
   | (with_reducible refine LeO.ite ?_ ?_)
   | (with_reducible refine LeO.bind ?_ (fun _ => ?_))
theorem peristyleref2_Decode.mono : ∀ a0 k, LeO (peristyleref2_Decode.f k a0) (peristyleref2_Decode.f (k + 1) a0) := by
 intro a0 k
 obtain ⟨ih0, ih1⟩ := peristyleref2_Decode.mono_l k
 unfold peristyleref2_Decode.f
 repeat' first
  | (with_reducible exact ih0 _ _ _ _ _ _)
  | (with_reducible exact peristyleref2_reader_count.mono _ _ _)
  | (with_reducible exact LeO.refl _)
  | (with_reducible refine LeO.ite ?_ ?_)
  | (with_reducible refine LeO.bind ?_ (fun _ => ?_))
set_option maxHeartbeats 8000000 in
set_option maxRecDepth 100000 in
theorem peristyleref2_Decode.calls (k : Nat) (A0 : Option Addr) (c0 : Nat) (l0 : List Int) (r1 : List Int) (r2 : Int) (w : World) (hr0 : Kd.C (Kd.int .u8) w A0 l0.length l0) (hc0 : l0.length ≤ c0) (h : peristyleref2_Decode.f k l0 = some (r1, r2)) :
 Calls Try.prog 25 #[.slice A0 l0.length c0] w fun e w' => ∃ v0_ : Value, e = .returned (.tuple #[v0_, .int .i64 r2]) ∧ Kd.R (Kd.int .i64) 3 w' w.heap.size (fun _ => True) v0_ r1 ∧ Below w.heap.size w w' := by
 have hu75 := Try.underlying75
 have HR0 := Aside0.mk hr0
 have HC0 := Aside0.mk hc0
 clear hr0 hc0
 have HB := Aside0.mk (Below.refl w.heap.size w)
 have H : (if (l0.length : Int) > 500000 then (some (([] : List Int), 2)) else ((peristyleref2_reader_byte.f l0 false).bind fun bt620 => ((peristyleref2_reader_count.f k bt620.2.1 bt620.2.2).bind fun bt623 => (if bt623.2.2 = true then (peristyleref2_Decode.j0 k l0 bt620.1 bt623.1 true bt623.2.1 bt623.2.2) else (peristyleref2_Decode.j0 k l0 bt620.1 bt623.1 (decide (bt623.1 > 2000)) bt623.2.1 bt623.2.2))))) = some (r1, r2) := h
 clear h
 by_cases c2 : (l0.length : Int) > 500000
 ·rw [if_pos c2] at H
  have c2b0 : decide (500000 < (l0.length : Int)) = true := decide_eq_true c2
  have c2b1 : decide (500000 < l0.length) = true := decide_eq_true (by omega)
  clear c2
  simp only [Option.some.injEq, Prod.mk.injEq] at H
  obtain ⟨rfl, rfl⟩ := H
  go_enter Try.func25, Try.ntmps25
  go_wp2
  go_ret2
  exact ⟨_, by rfl, by exact Kd.R_nil _ _ _ _ _, by exact HB.out⟩
 ·rw [if_neg c2] at H
  have c2b0 : decide (500000 < (l0.length : Int)) = false := decide_eq_false c2
  have c2b1 : decide (500000 < l0.length) = false := decide_eq_false (by omega)
  clear c2
  replace H := Option.bind_eq_some_iff.mp H
  obtain ⟨⟨t620, t621, t622⟩, A30, H⟩ := H
  replace H : ((peristyleref2_reader_count.f k t621 t622).bind fun bt623 => (if bt623.2.2 = true then (peristyleref2_Decode.j0 k l0 t620 bt623.1 true bt623.2.1 bt623.2.2) else (peristyleref2_Decode.j0 k l0 t620 bt623.1 (decide (bt623.1 > 2000)) bt623.2.1 bt623.2.2))) = some (r1, r2) := H
  have A3 := Aside0.mk A30
  clear A30
  replace H := Option.bind_eq_some_iff.mp H
  obtain ⟨⟨t623, t624, t625⟩, A40, H⟩ := H
  replace H : (if t625 = true then (peristyleref2_Decode.j0 k l0 t620 t623 true t624 t625) else (peristyleref2_Decode.j0 k l0 t620 t623 (decide (t623 > 2000)) t624 t625)) = some (r1, r2) := H
  have A4 := Aside0.mk A40
  clear A40
  have HC5 := Aside0.mk H
  clear H
  go_enter Try.func25, Try.ntmps25
  go_upto_region 5 with (first | ((with_reducible refine gate_dst (N := 15) rfl ?_); refine box_event ?hg (N := 15) ?hd (cs := #[.slice A0 l0.length c0, .bool false]) (t := 75) ?hr ?_; (case hd => rfl); (case hg => rfl); (case hr => (go_simp; done)); intro gb619 hg w6 hbox hb; have n0_ := Aside0.mk (below_step (by exact HB.out) hb); have n1_ := Aside0.mk ((by rw [hg]; exact (below_size (by exact HB.out)) : w.heap.size ≤ gb619)); have n2_ := Aside0.mk ((by rw [hg]; exact (below_size (by exact HB.out)) : w.heap.size ≤ gb619)); have n3_ := Aside0.mk ((show IsS75 w w6 gb619 l0 false from ⟨_, _, hbox, (by rw [hg]; exact (below_size (by exact HB.out)) : w.heap.size ≤ gb619), ⟨HC0.out, HR0.out⟩⟩)); clear HB; have HB := n0_; have GW619 := n1_; have GE619 := n2_; have HI619 := n3_; clear n0_ n1_ n2_ n3_; clear hb hbox hg) | ((with_reducible refine gate_callee (f := 59) rfl ?_); refine goesL_ (some 17) rfl rfl Try.func59 (by kernel_rfl) rfl #[.pointer (some ⟨gb619, 0, none⟩)] rfl (by (try simp only [List.map_toArray, List.map_cons, List.map_nil]); rfl) ?_; (with_reducible refine (peristyleref2_reader_byte.calls gb619 l0 false t620 t621 t622 w _ ?side1 ?side2 A3.out).mono ?_); (case side1 => exact HI619.out); (case side2 => exact HB.out); rintro e w7 ⟨rfl, hi, hb, hk⟩; refine ⟨_, rfl, ?_⟩; have n0_ := Aside0.mk (hb); have n1_ := Aside0.mk (hi); clear HB; clear HI619; have HB := n0_; have HI619 := n1_; clear n0_ n1_; (try clear hb); (try clear hk); (try clear hi)) | ((with_reducible refine gate_callee (f := 60) rfl ?_); refine goesL_ (some 19) rfl rfl Try.func60 (by kernel_rfl) rfl #[.pointer (some ⟨gb619, 0, none⟩)] rfl (by (try simp only [List.map_toArray, List.map_cons, List.map_nil]); rfl) ?_; (with_reducible refine (peristyleref2_reader_count.calls k gb619 t621 t622 t623 t624 t625 w _ ?side1 ?side2 A4.out).mono ?_); (case side1 => exact HI619.out); (case side2 => exact HB.out); rintro e w8 ⟨rfl, hi, hb, hk⟩; refine ⟨_, rfl, ?_⟩; have n0_ := Aside0.mk (hb); have n1_ := Aside0.mk (hi); clear HB; clear HI619; have HB := n0_; have HI619 := n1_; clear n0_ n1_; (try clear hb); (try clear hk); (try clear hi)))
  (try simp only [Act.put, List.setIfInBounds_toArray, List.set_cons_zero, List.set_cons_succ])
  go_cut [27] (fun v27 wc => ∃ (kq : Nat) (x27_4 : Bool), v27 = .bool x27_4 ∧ Aside0 (peristyleref2_Decode.j0 kq l0 t620 t623 x27_4 t624 t625 = some (r1, r2)) ∧ Aside0 (kq ≤ k) ∧ Aside0 (IsS75 w wc gb619 t624 t625) ∧ Aside0 (Below w.heap.size w wc))
  case first =>
   have H := HC5.out
   clear HC5
   by_cases c9 : t625 = true
   ·subst c9
    have H1 : (peristyleref2_Decode.j0 k l0 t620 t623 true t624 true) = some (r1, r2) := by rw [if_pos rfl] at H; exact H
    clear H
    have H := H1
    clear H1
    have H' := Aside0.mk H
    clear H
    obtain ⟨ASz10_0, cSz10_0, HGz10, hgz10, HSz10_0⟩ := HI619.out
    have hcz10_0 := cellS75_0 HGz10
    have hcz10_1 := cellS75_1 HGz10
    have hfz10_0 := blk_frozen HGz10 0
    have hfz10_1 := blk_frozen HGz10 1
    have HCSz10_0 := HSz10_0.1
    replace HSz10_0 := HSz10_0.2
    clear HGz10 hgz10
    go_wp2
    go_meet
    case rel => exact ⟨_, (true), (by rfl), H', ⟨by omega⟩, ⟨by exact HI619.out⟩, ⟨by exact HB.out⟩⟩
   ·replace c9 := Bool.eq_false_iff.mpr c9
    subst c9
    have H1 : (peristyleref2_Decode.j0 k l0 t620 t623 (decide (t623 > 2000)) t624 false) = some (r1, r2) := by rw [if_neg (show ¬ (false = true) by decide)] at H; exact H
    clear H
    have H := H1
    clear H1
    have H' := Aside0.mk H
    clear H
    obtain ⟨ASz11_0, cSz11_0, HGz11, hgz11, HSz11_0⟩ := HI619.out
    have hcz11_0 := cellS75_0 HGz11
    have hcz11_1 := cellS75_1 HGz11
    have hfz11_0 := blk_frozen HGz11 0
    have hfz11_1 := blk_frozen HGz11 1
    have HCSz11_0 := HSz11_0.1
    replace HSz11_0 := HSz11_0.2
    clear HGz11 hgz11
    go_wp2
    go_meet
    case rel => exact ⟨_, (decide (t623 > 2000)), (by rfl), H', ⟨by omega⟩, ⟨by exact HI619.out⟩, ⟨by exact HB.out⟩⟩
  case rest =>
   clear HC5
   try clear c2b0
   try clear c2b1
   obtain ⟨kq, x27_4, rfl, HA, HJ4, HI619, HB⟩ := hcut
   cases kq with
   | zero => exact absurd HA.out (by simp [peristyleref2_Decode.j0])
   | succ kj4 =>
    have H := HA.out
    clear HA
    simp only [peristyleref2_Decode.j0] at H
    by_cases c12 : x27_4 = true
    ·subst c12
     have H1 : (some (([] : List Int), 3)) = some (r1, r2) := by rw [if_pos rfl] at H; exact H
     clear H
     have H := H1
     clear H1
     simp only [Option.some.injEq, Prod.mk.injEq] at H
     obtain ⟨rfl, rfl⟩ := H
     go_wp2
     go_ret2
     exact ⟨_, by rfl, by exact Kd.R_nil _ _ _ _ _, by exact HB.out⟩
    ·replace c12 := Bool.eq_false_iff.mpr c12
     subst c12
     have H1 : (if t623 > 0 then ((peristyleref2_reader_values.f kj4 t624 t625 t620 t623).bind fun bt626 => (peristyleref2_Decode.j1 kj4 l0 t620 bt626.1 bt626.2.1 bt626.2.2)) else (peristyleref2_Decode.j1 kj4 l0 t620 ([] : List Int) t624 t625)) = some (r1, r2) := by rw [if_neg (show ¬ (false = true) by decide)] at H; exact H
     clear H
     have H := H1
     clear H1
     have HC13 := Aside0.mk H
     clear H
     go_upto_if 29 with (fail)
     go_cut [7] (fun v7 wc => ∃ (kq : Nat) (x7_12 : List Int) (x620000_12 : List Int) (x620001_12 : Bool), Aside0 (peristyleref2_Decode.j1 kq l0 t620 x7_12 x620000_12 x620001_12 = some (r1, r2)) ∧ Aside0 (kq ≤ kj4) ∧ Aside0 (Kd.R (Kd.int .i64) 3 wc w.heap.size (fun _ => True) v7 x7_12) ∧ Aside0 (IsS75 w wc gb619 x620000_12 x620001_12) ∧ Aside0 (Below w.heap.size w wc))
     case first =>
      have H := HC13.out
      clear HC13
      by_cases c14 : t623 > 0
      ·rw [if_pos c14] at H
       have c14b0 : decide (0 < t623) = true := decide_eq_true c14
       clear c14
       (rw [c14b0])
       (try rw [c14b1])
       replace H := Option.bind_eq_some_iff.mp H
       obtain ⟨⟨t626, t629, t630⟩, A150, H⟩ := H
       replace H : (peristyleref2_Decode.j1 kj4 l0 t620 t626 t629 t630) = some (r1, r2) := H
       have A15 := Aside0.mk A150
       clear A150
       have H' := Aside0.mk H
       clear H
       go_wp2_with (first | ((with_reducible refine gate_callee (f := 64) rfl ?_); refine goesL_ (some 33) rfl rfl Try.func64 (by kernel_rfl) rfl #[.pointer (some ⟨gb619, 0, none⟩), .int .i64 t620, .int .i64 t623] rfl (by (try simp only [List.map_toArray, List.map_cons, List.map_nil]); rfl) ?_; (with_reducible refine (peristyleref2_reader_values.calls kj4 gb619 t624 t625 t620 t623 t626 t629 t630 w _ ?side1 ?side2 A15.out).mono ?_); (case side1 => exact HI619.out); (case side2 => exact HB.out); rintro e w16 ⟨v627, rfl, ho0, hi, hb, hk⟩; refine ⟨_, rfl, ?_⟩; have n0_ := Aside0.mk (Kd.R_lower ho0 (below_size (by exact HB.out))); have n1_ := Aside0.mk (hb); have n2_ := Aside0.mk (hi); clear HB; clear HI619; have HO628 := n0_; have HB := n1_; have HI619 := n2_; clear n0_ n1_ n2_; (try clear hb); (try clear hk); (try clear hi); (try clear ho0)))
       go_meet
       case rel => exact ⟨_, (t626), (t629), (t630), H', ⟨by have := HJ4.out; omega⟩, ⟨by exact HO628.out⟩, ⟨by exact HI619.out⟩, ⟨by exact HB.out⟩⟩
      ·rw [if_neg c14] at H
       have c14b0 : decide (0 < t623) = false := decide_eq_false c14
       clear c14
       (rw [c14b0])
       (try rw [c14b1])
       have H' := Aside0.mk H
       clear H
       go_wp2
       go_meet
       case rel => exact ⟨_, (([] : List Int)), (t624), (t625), H', ⟨by have := HJ4.out; omega⟩, ⟨by exact Kd.R_nil _ _ _ _ _⟩, ⟨by exact HI619.out⟩, ⟨by exact HB.out⟩⟩
     case rest =>
      clear HC13
      obtain ⟨kq, x7_12, x620000_12, x620001_12, HA, HJ12, HO_7, HI619, HB⟩ := hcut
      cases kq with
      | zero => exact absurd HA.out (by simp [peristyleref2_Decode.j1])
      | succ kj12 =>
       have H := HA.out
       clear HA
       simp only [peristyleref2_Decode.j1] at H
       by_cases c17 : x620001_12 = true
       ·subst c17
        have H1 : (some (([] : List Int), 3)) = some (r1, r2) := by rw [if_pos rfl] at H; exact H
        clear H
        have H := H1
        clear H1
        simp only [Option.some.injEq, Prod.mk.injEq] at H
        obtain ⟨rfl, rfl⟩ := H
        obtain ⟨ASz18_0, cSz18_0, HGz18, hgz18, HSz18_0⟩ := HI619.out
        have hcz18_0 := cellS75_0 HGz18
        have hcz18_1 := cellS75_1 HGz18
        have hfz18_0 := blk_frozen HGz18 0
        have hfz18_1 := blk_frozen HGz18 1
        have HCSz18_0 := HSz18_0.1
        replace HSz18_0 := HSz18_0.2
        clear HGz18 hgz18
        go_wp2
        go_ret2
        exact ⟨_, by rfl, by exact Kd.R_nil _ _ _ _ _, by exact HB.out⟩
       ·replace c17 := Bool.eq_false_iff.mpr c17
        subst c17
        have H1 : ((peristyleref2_Encode.f kj12 t620 x7_12).bind fun bt631 => (if bt631.2 = 0 then ((slices_Equal_byte_byte.f kj12 bt631.1 l0).bind fun t635 => (if t635 = true then (some (x7_12, 0)) else (some (([] : List Int), 3)))) else (some (([] : List Int), 3)))) = some (r1, r2) := by rw [if_neg (show ¬ (false = true) by decide)] at H; exact H
        clear H
        have H := H1
        clear H1
        replace H := Option.bind_eq_some_iff.mp H
        obtain ⟨⟨t631, t632⟩, A190, H⟩ := H
        replace H : (if t632 = 0 then ((slices_Equal_byte_byte.f kj12 t631 l0).bind fun t635 => (if t635 = true then (some (x7_12, 0)) else (some (([] : List Int), 3)))) else (some (([] : List Int), 3))) = some (r1, r2) := H
        have A19 := Aside0.mk A190
        clear A190
        by_cases c20 : t632 = 0
        ·rw [if_pos c20] at H
         have c20b0 : (t632 == 0) = true := beq_iff_eq.mpr c20
         have c20b1 : (t632 != 0) = false := bne_eq_false_iff_eq.mpr c20
         clear c20
         replace H := Option.bind_eq_some_iff.mp H
         obtain ⟨t635, A210, H⟩ := H
         replace H : (if t635 = true then (some (x7_12, 0)) else (some (([] : List Int), 3))) = some (r1, r2) := H
         have A21 := Aside0.mk A210
         clear A210
         by_cases c22 : t635 = true
         ·subst c22
          have H1 : (some (x7_12, 0)) = some (r1, r2) := by rw [if_pos rfl] at H; exact H
          clear H
          have H := H1
          clear H1
          simp only [Option.some.injEq, Prod.mk.injEq] at H
          obtain ⟨rfl, rfl⟩ := H
          obtain ⟨ASz23_0, cSz23_0, HGz23, hgz23, HSz23_0⟩ := HI619.out
          have hcz23_0 := cellS75_0 HGz23
          have hcz23_1 := cellS75_1 HGz23
          have hfz23_0 := blk_frozen HGz23 0
          have hfz23_1 := blk_frozen HGz23 1
          have HCSz23_0 := HSz23_0.1
          replace HSz23_0 := HSz23_0.2
          clear HGz23 hgz23
          obtain ⟨Ao24, co24, eo24⟩ := Kd.R_slice HO_7.out
          subst eo24
          go_wp2_with (first | ((with_reducible refine gate_callee (f := 23) rfl ?_); refine goesL_ (some 41) rfl rfl Try.func23 (by kernel_rfl) rfl #[.int .i64 t620, .slice Ao24 x7_12.length co24] rfl (by (try simp only [List.map_toArray, List.map_cons, List.map_nil]); rfl) ?_; (with_reducible refine (peristyleref2_Encode.calls kj12 t620 _ _ x7_12 t631 t632 _ ?side1 ?side2 A19.out).mono ?_); (case side1 => repeat (exact (Kd.R_reads' HO_7.out).2.2)); (case side2 => exact (Kd.R_reads' HO_7.out).2.1); rintro e w25 ⟨v633, rfl, ho0, hb⟩; refine ⟨_, rfl, ?_⟩; have n0_ := Aside0.mk (Kd.R_below (by exact HO_7.out) hb); have n1_ := Aside0.mk (Kd.R_lower ho0 (below_size (by exact HB.out))); have n2_ := Aside0.mk (IsS75.below (by exact HI619.out) hb); have n3_ := Aside0.mk (below_step (by exact HB.out) hb); clear HO_7; clear HI619; clear HB; have HO_7 := n0_; have HO634 := n1_; have HI619 := n2_; have HB := n3_; clear n0_ n1_ n2_ n3_; (try clear hb); (try clear ho0); obtain ⟨Ao26, co26, eo26⟩ := Kd.R_slice HO634.out; subst eo26) | (go_at_call 17; (with_reducible refine (slices_Equal_byte_byte.calls kj12 _ _ t631 _ _ l0 true _ ?side1 ?side2 ?side3 ?side4 A21.out).mono ?_); (case side1 => repeat (exact (Kd.R_reads' HO634.out).2.2)); (case side2 => exact (Kd.R_reads' HO634.out).2.1); (case side3 => repeat (exact (Kd.C_below HR0.out HB.out))); (case side4 => exact HC0.out); rintro e w' ⟨rfl, ⟨nd, rfl⟩⟩))
          go_ret2
          exact ⟨_, by rfl, by (with_reducible repeat (apply Kd.R_drewN)); exact HO_7.out, by repeat ((with_reducible first | exact HB.out | apply pw_below_drewN ))⟩
         ·replace c22 := Bool.eq_false_iff.mpr c22
          subst c22
          have H1 : (some (([] : List Int), 3)) = some (r1, r2) := by rw [if_neg (show ¬ (false = true) by decide)] at H; exact H
          clear H
          have H := H1
          clear H1
          simp only [Option.some.injEq, Prod.mk.injEq] at H
          obtain ⟨rfl, rfl⟩ := H
          obtain ⟨ASz27_0, cSz27_0, HGz27, hgz27, HSz27_0⟩ := HI619.out
          have hcz27_0 := cellS75_0 HGz27
          have hcz27_1 := cellS75_1 HGz27
          have hfz27_0 := blk_frozen HGz27 0
          have hfz27_1 := blk_frozen HGz27 1
          have HCSz27_0 := HSz27_0.1
          replace HSz27_0 := HSz27_0.2
          clear HGz27 hgz27
          obtain ⟨Ao28, co28, eo28⟩ := Kd.R_slice HO_7.out
          subst eo28
          go_wp2_with (first | ((with_reducible refine gate_callee (f := 23) rfl ?_); refine goesL_ (some 41) rfl rfl Try.func23 (by kernel_rfl) rfl #[.int .i64 t620, .slice Ao28 x7_12.length co28] rfl (by (try simp only [List.map_toArray, List.map_cons, List.map_nil]); rfl) ?_; (with_reducible refine (peristyleref2_Encode.calls kj12 t620 _ _ x7_12 t631 t632 _ ?side1 ?side2 A19.out).mono ?_); (case side1 => repeat (exact (Kd.R_reads' HO_7.out).2.2)); (case side2 => exact (Kd.R_reads' HO_7.out).2.1); rintro e w29 ⟨v633, rfl, ho0, hb⟩; refine ⟨_, rfl, ?_⟩; have n0_ := Aside0.mk (Kd.R_below (by exact HO_7.out) hb); have n1_ := Aside0.mk (Kd.R_lower ho0 (below_size (by exact HB.out))); have n2_ := Aside0.mk (IsS75.below (by exact HI619.out) hb); have n3_ := Aside0.mk (below_step (by exact HB.out) hb); clear HO_7; clear HI619; clear HB; have HO_7 := n0_; have HO634 := n1_; have HI619 := n2_; have HB := n3_; clear n0_ n1_ n2_ n3_; (try clear hb); (try clear ho0); obtain ⟨Ao30, co30, eo30⟩ := Kd.R_slice HO634.out; subst eo30) | (go_at_call 17; (with_reducible refine (slices_Equal_byte_byte.calls kj12 _ _ t631 _ _ l0 false _ ?side1 ?side2 ?side3 ?side4 A21.out).mono ?_); (case side1 => repeat (exact (Kd.R_reads' HO634.out).2.2)); (case side2 => exact (Kd.R_reads' HO634.out).2.1); (case side3 => repeat (exact (Kd.C_below HR0.out HB.out))); (case side4 => exact HC0.out); rintro e w' ⟨rfl, ⟨nd, rfl⟩⟩))
          go_ret2
          exact ⟨_, by rfl, by exact Kd.R_nil _ _ _ _ _, by repeat ((with_reducible first | exact HB.out | apply pw_below_drewN ))⟩
        ·rw [if_neg c20] at H
         have c20b0 : (t632 == 0) = false := beq_eq_false_iff_ne.mpr c20
         have c20b1 : (t632 != 0) = true := bne_iff_ne.mpr c20
         simp only [Option.some.injEq, Prod.mk.injEq] at H
         obtain ⟨rfl, rfl⟩ := H
         obtain ⟨ASz31_0, cSz31_0, HGz31, hgz31, HSz31_0⟩ := HI619.out
         have hcz31_0 := cellS75_0 HGz31
         have hcz31_1 := cellS75_1 HGz31
         have hfz31_0 := blk_frozen HGz31 0
         have hfz31_1 := blk_frozen HGz31 1
         have HCSz31_0 := HSz31_0.1
         replace HSz31_0 := HSz31_0.2
         clear HGz31 hgz31
         obtain ⟨Ao32, co32, eo32⟩ := Kd.R_slice HO_7.out
         subst eo32
         go_wp2_with (first | ((with_reducible refine gate_callee (f := 23) rfl ?_); refine goesL_ (some 41) rfl rfl Try.func23 (by kernel_rfl) rfl #[.int .i64 t620, .slice Ao32 x7_12.length co32] rfl (by (try simp only [List.map_toArray, List.map_cons, List.map_nil]); rfl) ?_; (with_reducible refine (peristyleref2_Encode.calls kj12 t620 _ _ x7_12 t631 t632 _ ?side1 ?side2 A19.out).mono ?_); (case side1 => repeat (exact (Kd.R_reads' HO_7.out).2.2)); (case side2 => exact (Kd.R_reads' HO_7.out).2.1); rintro e w33 ⟨v633, rfl, ho0, hb⟩; refine ⟨_, rfl, ?_⟩; have n0_ := Aside0.mk (Kd.R_below (by exact HO_7.out) hb); have n1_ := Aside0.mk (Kd.R_lower ho0 (below_size (by exact HB.out))); have n2_ := Aside0.mk (IsS75.below (by exact HI619.out) hb); have n3_ := Aside0.mk (below_step (by exact HB.out) hb); clear HO_7; clear HI619; clear HB; have HO_7 := n0_; have HO634 := n1_; have HI619 := n2_; have HB := n3_; clear n0_ n1_ n2_ n3_; (try clear hb); (try clear ho0)))
         go_ret2
         exact ⟨_, by rfl, by exact Kd.R_nil _ _ _ _ _, by exact HB.out⟩

/-! ### peristylelaw2_EncodeIntsMatchSpec: function 6 -/
mutual
def peristylelaw2_EncodeIntsMatchSpec.j0 : Nat → List Int → List Int → Bool → Option (Bool)
 | 0, _, _, _ => none
 | k + 1, x1, x2, x35 => if x35 = true then (some false) else ((encode_Best.f k x1).bind fun bt645 => ((peristyleref2_Best.f k x1).bind fun bt647 => (if bt645.2 = bt647.2 then (peristylelaw2_EncodeIntsMatchSpec.j1 k x2 (bt645.1 != bt647.1)) else (peristylelaw2_EncodeIntsMatchSpec.j1 k x2 true))))
def peristylelaw2_EncodeIntsMatchSpec.j1 : Nat → List Int → Bool → Option (Bool)
 | 0, _, _ => none
 | k + 1, x2, x53 => if x53 = true then (some false) else ((encode_Decode.f k x2).bind fun bt649 => ((peristyleref2_Decode.f k x2).bind fun bt653 => (if bt649.2 = bt653.2 then ((slices_Equal_int_int.f k bt649.1 bt653.1).bind fun t657 => (if t657 = true then ((peristylelaw2_awake.f k).bind fun t658 => (some t658)) else (some false))) else (some false))))
end
def peristylelaw2_EncodeIntsMatchSpec.f (k : Nat) (a0 : Int) (l1 : List Int) (l2 : List Int) : Option (Bool) := (encode_Encode.f k a0 l1).bind fun bt636 => ((peristyleref2_Encode.f k a0 l1).bind fun bt640 => (if bt636.2 = bt640.2 then ((slices_Equal_byte_byte.f k bt636.1 bt640.1).bind fun t644 => (peristylelaw2_EncodeIntsMatchSpec.j0 k l1 l2 (!t644))) else (peristylelaw2_EncodeIntsMatchSpec.j0 k l1 l2 true)))
theorem peristylelaw2_EncodeIntsMatchSpec.mono_l : ∀ k, (∀ y0 y1 y2, LeO (peristylelaw2_EncodeIntsMatchSpec.j0 k y0 y1 y2) (peristylelaw2_EncodeIntsMatchSpec.j0 (k + 1) y0 y1 y2)) ∧ (∀ y0 y1, LeO (peristylelaw2_EncodeIntsMatchSpec.j1 k y0 y1) (peristylelaw2_EncodeIntsMatchSpec.j1 (k + 1) y0 y1))
 | 0 => ⟨fun _ _ _ r h => by simp [peristylelaw2_EncodeIntsMatchSpec.j0] at h, fun _ _ r h => by simp [peristylelaw2_EncodeIntsMatchSpec.j1] at h⟩
 | k + 1 => by
  obtain ⟨ih0, ih1⟩ := peristylelaw2_EncodeIntsMatchSpec.mono_l k
  refine ⟨?_, ?_⟩ <;> intros
  all_goals (first | unfold peristylelaw2_EncodeIntsMatchSpec.j0 | unfold peristylelaw2_EncodeIntsMatchSpec.j1)
  all_goals
   repeat' first
   | (with_reducible exact ih1 _ _)
   | (with_reducible exact encode_Best.mono _ _)
   | (with_reducible exact encode_Decode.mono _ _)
   | (with_reducible exact peristylelaw2_awake.mono _)
   | (with_reducible exact peristyleref2_Best.mono _ _)
   | (with_reducible exact peristyleref2_Decode.mono _ _)
   | (with_reducible exact slices_Equal_int_int.mono _ _ _)
   | (with_reducible exact LeO.refl _)
   | (with_reducible refine LeO.ite ?_ ?_)
   | (with_reducible refine LeO.bind ?_ (fun _ => ?_))
theorem peristylelaw2_EncodeIntsMatchSpec.mono : ∀ a0 a1 a2 k, LeO (peristylelaw2_EncodeIntsMatchSpec.f k a0 a1 a2) (peristylelaw2_EncodeIntsMatchSpec.f (k + 1) a0 a1 a2) := by
 intro a0 a1 a2 k
 obtain ⟨ih0, ih1⟩ := peristylelaw2_EncodeIntsMatchSpec.mono_l k
 unfold peristylelaw2_EncodeIntsMatchSpec.f
 repeat' first
  | (with_reducible exact ih0 _ _ _)
  | (with_reducible exact encode_Encode.mono _ _ _)
  | (with_reducible exact peristyleref2_Encode.mono _ _ _)
  | (with_reducible exact slices_Equal_byte_byte.mono _ _ _)
  | (with_reducible refine LeO.ite ?_ ?_)
  | (with_reducible refine LeO.bind ?_ (fun _ => ?_))
set_option maxHeartbeats 8000000 in
set_option maxRecDepth 100000 in
theorem peristylelaw2_EncodeIntsMatchSpec.calls (k : Nat) (a0 : Int) (A1 : Option Addr) (c1 : Nat) (l1 : List Int) (A2 : Option Addr) (c2 : Nat) (l2 : List Int) (r : Bool) (w : World) (hr1 : Kd.C (Kd.int .i64) w A1 l1.length l1) (hc1 : l1.length ≤ c1) (hr2 : Kd.C (Kd.int .u8) w A2 l2.length l2) (hc2 : l2.length ≤ c2) (h : peristylelaw2_EncodeIntsMatchSpec.f k a0 l1 l2 = some r) :
 Calls Try.prog 6 #[.int .i64 a0, .slice A1 l1.length c1, .slice A2 l2.length c2] w fun e w' => e = .returned (.bool r) ∧ Below w.heap.size w w' := by
 have HR1 := Aside0.mk hr1
 have HC1 := Aside0.mk hc1
 clear hr1 hc1
 have HR2 := Aside0.mk hr2
 have HC2 := Aside0.mk hc2
 clear hr2 hc2
 have HB := Aside0.mk (Below.refl w.heap.size w)
 have H : ((encode_Encode.f k a0 l1).bind fun bt636 => ((peristyleref2_Encode.f k a0 l1).bind fun bt640 => (if bt636.2 = bt640.2 then ((slices_Equal_byte_byte.f k bt636.1 bt640.1).bind fun t644 => (peristylelaw2_EncodeIntsMatchSpec.j0 k l1 l2 (!t644))) else (peristylelaw2_EncodeIntsMatchSpec.j0 k l1 l2 true)))) = some r := h
 clear h
 replace H := Option.bind_eq_some_iff.mp H
 obtain ⟨⟨t636, t637⟩, A40, H⟩ := H
 replace H : ((peristyleref2_Encode.f k a0 l1).bind fun bt640 => (if t637 = bt640.2 then ((slices_Equal_byte_byte.f k t636 bt640.1).bind fun t644 => (peristylelaw2_EncodeIntsMatchSpec.j0 k l1 l2 (!t644))) else (peristylelaw2_EncodeIntsMatchSpec.j0 k l1 l2 true))) = some r := H
 have A4 := Aside0.mk A40
 clear A40
 replace H := Option.bind_eq_some_iff.mp H
 obtain ⟨⟨t640, t641⟩, A50, H⟩ := H
 replace H : (if t637 = t641 then ((slices_Equal_byte_byte.f k t636 t640).bind fun t644 => (peristylelaw2_EncodeIntsMatchSpec.j0 k l1 l2 (!t644))) else (peristylelaw2_EncodeIntsMatchSpec.j0 k l1 l2 true)) = some r := H
 have A5 := Aside0.mk A50
 clear A50
 have HC6 := Aside0.mk H
 clear H
 go_enter Try.func6, Try.ntmps6
 go_upto_region 3 with (first | ((with_reducible refine gate_callee (f := 14) rfl ?_); refine goesL_ (some 18) rfl rfl Try.func14 (by kernel_rfl) rfl #[.int .i64 a0, .slice A1 l1.length c1] rfl (by (try simp only [List.map_toArray, List.map_cons, List.map_nil]); rfl) ?_; (with_reducible refine (encode_Encode.calls k a0 _ _ l1 t636 t637 _ ?side1 ?side2 A4.out).mono ?_); (case side1 => repeat (exact HR1.out)); (case side2 => exact HC1.out); rintro e w7 ⟨v638, rfl, ho0, hb⟩; refine ⟨_, rfl, ?_⟩; have n0_ := Aside0.mk (Kd.R_lower ho0 (below_size (by exact HB.out))); have n1_ := Aside0.mk (below_step (by exact HB.out) hb); clear HB; have HO639 := n0_; have HB := n1_; clear n0_ n1_; (try clear hb); (try clear ho0)) | ((with_reducible refine gate_callee (f := 23) rfl ?_); refine goesL_ (some 24) rfl rfl Try.func23 (by kernel_rfl) rfl #[.int .i64 a0, .slice A1 l1.length c1] rfl (by (try simp only [List.map_toArray, List.map_cons, List.map_nil]); rfl) ?_; (with_reducible refine (peristyleref2_Encode.calls k a0 _ _ l1 t640 t641 _ ?side1 ?side2 A5.out).mono ?_); (case side1 => repeat (exact (Kd.C_below HR1.out HB.out))); (case side2 => exact HC1.out); rintro e w8 ⟨v642, rfl, ho0, hb⟩; refine ⟨_, rfl, ?_⟩; have n0_ := Aside0.mk (Kd.R_elder' (by exact HO639.out) (Kd.R_base ho0) hb); have n1_ := Aside0.mk (Kd.R_lower (Kd.R_new' ho0 (Kd.R_lt (by exact HO639.out))) (below_size (by exact HB.out))); have n2_ := Aside0.mk (below_step (by exact HB.out) hb); clear HO639; clear HB; have HO639 := n0_; have HO643 := n1_; have HB := n2_; clear n0_ n1_ n2_; (try clear hb); (try clear ho0)))
 (try simp only [Act.put, List.setIfInBounds_toArray, List.set_cons_zero, List.set_cons_succ])
 go_cut [35] (fun v35 wc => ∃ (kq : Nat) (x35_5 : Bool), v35 = .bool x35_5 ∧ Aside0 (peristylelaw2_EncodeIntsMatchSpec.j0 kq l1 l2 x35_5 = some r) ∧ Aside0 (kq ≤ k) ∧ Aside0 (Below w.heap.size w wc))
 case first =>
  have H := HC6.out
  clear HC6
  by_cases c9 : t637 = t641
  ·rw [if_pos c9] at H
   have c9b0 : (t637 == t641) = true := beq_iff_eq.mpr c9
   have c9b1 : (t637 != t641) = false := bne_eq_false_iff_eq.mpr c9
   clear c9
   (skip)
   (try rw [c9b1])
   replace H := Option.bind_eq_some_iff.mp H
   obtain ⟨t644, A100, H⟩ := H
   replace H : (peristylelaw2_EncodeIntsMatchSpec.j0 k l1 l2 (!t644)) = some r := H
   have A10 := Aside0.mk A100
   clear A100
   have H' := Aside0.mk H
   clear H
   obtain ⟨Ao11, co11, eo11⟩ := Kd.R_slice HO639.out
   subst eo11
   obtain ⟨Ao12, co12, eo12⟩ := Kd.R_slice HO643.out
   subst eo12
   go_wp2_with (first | (go_at_call 17; (with_reducible refine (slices_Equal_byte_byte.calls k _ _ t636 _ _ t640 t644 _ ?side1 ?side2 ?side3 ?side4 A10.out).mono ?_); (case side1 => repeat (exact (Kd.R_reads' HO639.out).2.2)); (case side2 => exact (Kd.R_reads' HO639.out).2.1); (case side3 => repeat (exact (Kd.R_reads' HO643.out).2.2)); (case side4 => exact (Kd.R_reads' HO643.out).2.1); rintro e w' ⟨rfl, ⟨nd, rfl⟩⟩))
   go_meet
   case rel => exact ⟨_, (!t644), (by rfl), H', ⟨by omega⟩, ⟨by repeat ((with_reducible first | exact HB.out | apply pw_below_drewN))⟩⟩
  ·rw [if_neg c9] at H
   have c9b0 : (t637 == t641) = false := beq_eq_false_iff_ne.mpr c9
   have c9b1 : (t637 != t641) = true := bne_iff_ne.mpr c9
   (skip)
   (try rw [c9b1])
   have H' := Aside0.mk H
   clear H
   go_wp2
   go_meet
   case rel => exact ⟨_, (true), (by rfl), H', ⟨by omega⟩, ⟨by exact HB.out⟩⟩
 case rest =>
  clear HC6
  obtain ⟨kq, x35_5, rfl, HA, HJ5, HB⟩ := hcut
  cases kq with
  | zero => exact absurd HA.out (by simp [peristylelaw2_EncodeIntsMatchSpec.j0])
  | succ kj5 =>
   have H := HA.out
   clear HA
   simp only [peristylelaw2_EncodeIntsMatchSpec.j0] at H
   by_cases c13 : x35_5 = true
   ·subst c13
    have H1 : (some false) = some r := by rw [if_pos rfl] at H; exact H
    clear H
    have H := H1
    clear H1
    obtain rfl := Option.some.inj H
    go_wp2
    go_ret
    exact ⟨by rfl, by exact HB.out⟩
   ·replace c13 := Bool.eq_false_iff.mpr c13
    subst c13
    have H1 : ((encode_Best.f kj5 l1).bind fun bt645 => ((peristyleref2_Best.f kj5 l1).bind fun bt647 => (if bt645.2 = bt647.2 then (peristylelaw2_EncodeIntsMatchSpec.j1 kj5 l2 (bt645.1 != bt647.1)) else (peristylelaw2_EncodeIntsMatchSpec.j1 kj5 l2 true)))) = some r := by rw [if_neg (show ¬ (false = true) by decide)] at H; exact H
    clear H
    have H := H1
    clear H1
    replace H := Option.bind_eq_some_iff.mp H
    obtain ⟨⟨t645, t646⟩, A140, H⟩ := H
    replace H : ((peristyleref2_Best.f kj5 l1).bind fun bt647 => (if t646 = bt647.2 then (peristylelaw2_EncodeIntsMatchSpec.j1 kj5 l2 (t645 != bt647.1)) else (peristylelaw2_EncodeIntsMatchSpec.j1 kj5 l2 true))) = some r := H
    have A14 := Aside0.mk A140
    clear A140
    replace H := Option.bind_eq_some_iff.mp H
    obtain ⟨⟨t647, t648⟩, A150, H⟩ := H
    replace H : (if t646 = t648 then (peristylelaw2_EncodeIntsMatchSpec.j1 kj5 l2 (t645 != t647)) else (peristylelaw2_EncodeIntsMatchSpec.j1 kj5 l2 true)) = some r := H
    have A15 := Aside0.mk A150
    clear A150
    have HC16 := Aside0.mk H
    clear H
    go_upto_region 7 with (first | ((with_reducible refine gate_callee (f := 12) rfl ?_); refine goesL_ (some 38) rfl rfl Try.func12 (by kernel_rfl) rfl #[.slice A1 l1.length c1] rfl (by (try simp only [List.map_toArray, List.map_cons, List.map_nil]); rfl) ?_; (with_reducible refine (encode_Best.calls kj5 _ _ l1 t645 t646 _ ?side1 ?side2 A14.out).mono ?_); (case side1 => repeat (exact (Kd.C_below HR1.out HB.out))); (case side2 => exact HC1.out); rintro e w17 ⟨rfl, hb⟩; refine ⟨_, rfl, ?_⟩; have n0_ := Aside0.mk (below_step (by exact HB.out) hb); clear HB; have HB := n0_; clear n0_; (try clear hb); (try clear hi)) | ((with_reducible refine gate_callee (f := 24) rfl ?_); refine goesL_ (some 43) rfl rfl Try.func24 (by kernel_rfl) rfl #[.slice A1 l1.length c1] rfl (by (try simp only [List.map_toArray, List.map_cons, List.map_nil]); rfl) ?_; (with_reducible refine (peristyleref2_Best.calls kj5 _ _ l1 t647 t648 _ ?side1 ?side2 A15.out).mono ?_); (case side1 => repeat (exact (Kd.C_below HR1.out HB.out))); (case side2 => exact HC1.out); rintro e w18 ⟨rfl, hb⟩; refine ⟨_, rfl, ?_⟩; have n0_ := Aside0.mk (below_step (by exact HB.out) hb); clear HB; have HB := n0_; clear n0_; (try clear hb); (try clear hi)))
    (try simp only [Act.put, List.setIfInBounds_toArray, List.set_cons_zero, List.set_cons_succ])
    go_cut [53] (fun v53 wc => ∃ (kq : Nat) (x53_15 : Bool), v53 = .bool x53_15 ∧ Aside0 (peristylelaw2_EncodeIntsMatchSpec.j1 kq l2 x53_15 = some r) ∧ Aside0 (kq ≤ kj5) ∧ Aside0 (Below w.heap.size w wc))
    case first =>
     have H := HC16.out
     clear HC16
     by_cases c19 : t646 = t648
     ·rw [if_pos c19] at H
      have c19b0 : (t646 == t648) = true := beq_iff_eq.mpr c19
      have c19b1 : (t646 != t648) = false := bne_eq_false_iff_eq.mpr c19
      clear c19
      (skip)
      (try rw [c19b1])
      have H' := Aside0.mk H
      clear H
      go_wp2
      go_meet
      case rel => exact ⟨_, ((t645 != t647)), (by rfl), H', ⟨by have := HJ5.out; omega⟩, ⟨by exact HB.out⟩⟩
     ·rw [if_neg c19] at H
      have c19b0 : (t646 == t648) = false := beq_eq_false_iff_ne.mpr c19
      have c19b1 : (t646 != t648) = true := bne_iff_ne.mpr c19
      (skip)
      (try rw [c19b1])
      have H' := Aside0.mk H
      clear H
      go_wp2
      go_meet
      case rel => exact ⟨_, (true), (by rfl), H', ⟨by have := HJ5.out; omega⟩, ⟨by exact HB.out⟩⟩
    case rest =>
     clear HC16
     obtain ⟨kq, x53_15, rfl, HA, HJ15, HB⟩ := hcut
     cases kq with
     | zero => exact absurd HA.out (by simp [peristylelaw2_EncodeIntsMatchSpec.j1])
     | succ kj15 =>
      have H := HA.out
      clear HA
      simp only [peristylelaw2_EncodeIntsMatchSpec.j1] at H
      by_cases c20 : x53_15 = true
      ·subst c20
       have H1 : (some false) = some r := by rw [if_pos rfl] at H; exact H
       clear H
       have H := H1
       clear H1
       obtain rfl := Option.some.inj H
       go_wp2
       go_ret
       exact ⟨by rfl, by exact HB.out⟩
      ·replace c20 := Bool.eq_false_iff.mpr c20
       subst c20
       have H1 : ((encode_Decode.f kj15 l2).bind fun bt649 => ((peristyleref2_Decode.f kj15 l2).bind fun bt653 => (if bt649.2 = bt653.2 then ((slices_Equal_int_int.f kj15 bt649.1 bt653.1).bind fun t657 => (if t657 = true then ((peristylelaw2_awake.f kj15).bind fun t658 => (some t658)) else (some false))) else (some false)))) = some r := by rw [if_neg (show ¬ (false = true) by decide)] at H; exact H
       clear H
       have H := H1
       clear H1
       replace H := Option.bind_eq_some_iff.mp H
       obtain ⟨⟨t649, t650⟩, A210, H⟩ := H
       replace H : ((peristyleref2_Decode.f kj15 l2).bind fun bt653 => (if t650 = bt653.2 then ((slices_Equal_int_int.f kj15 t649 bt653.1).bind fun t657 => (if t657 = true then ((peristylelaw2_awake.f kj15).bind fun t658 => (some t658)) else (some false))) else (some false))) = some r := H
       have A21 := Aside0.mk A210
       clear A210
       replace H := Option.bind_eq_some_iff.mp H
       obtain ⟨⟨t653, t654⟩, A220, H⟩ := H
       replace H : (if t650 = t654 then ((slices_Equal_int_int.f kj15 t649 t653).bind fun t657 => (if t657 = true then ((peristylelaw2_awake.f kj15).bind fun t658 => (some t658)) else (some false))) else (some false)) = some r := H
       have A22 := Aside0.mk A220
       clear A220
       by_cases c23 : t650 = t654
       ·rw [if_pos c23] at H
        have c23b0 : (t650 == t654) = true := beq_iff_eq.mpr c23
        have c23b1 : (t650 != t654) = false := bne_eq_false_iff_eq.mpr c23
        clear c23
        replace H := Option.bind_eq_some_iff.mp H
        obtain ⟨t657, A240, H⟩ := H
        replace H : (if t657 = true then ((peristylelaw2_awake.f kj15).bind fun t658 => (some t658)) else (some false)) = some r := H
        have A24 := Aside0.mk A240
        clear A240
        by_cases c25 : t657 = true
        ·subst c25
         have H1 : ((peristylelaw2_awake.f kj15).bind fun t658 => (some t658)) = some r := by rw [if_pos rfl] at H; exact H
         clear H
         have H := H1
         clear H1
         replace H := Option.bind_eq_some_iff.mp H
         obtain ⟨t658, A260, H⟩ := H
         replace H : (some t658) = some r := H
         have A26 := Aside0.mk A260
         clear A260
         obtain rfl := Option.some.inj H
         go_wp2_with (first | ((with_reducible refine gate_callee (f := 21) rfl ?_); refine goesL_ (some 56) rfl rfl Try.func21 (by kernel_rfl) rfl #[.slice A2 l2.length c2] rfl (by (try simp only [List.map_toArray, List.map_cons, List.map_nil]); rfl) ?_; (with_reducible refine (encode_Decode.calls kj15 _ _ l2 t649 t650 _ ?side1 ?side2 A21.out).mono ?_); (case side1 => repeat (exact (Kd.C_below HR2.out HB.out))); (case side2 => exact HC2.out); rintro e w27 ⟨v651, rfl, ho0, hb⟩; refine ⟨_, rfl, ?_⟩; have n0_ := Aside0.mk (Kd.R_lower ho0 (below_size (by exact HB.out))); have n1_ := Aside0.mk (below_step (by exact HB.out) hb); clear HB; have HO652 := n0_; have HB := n1_; clear n0_ n1_; (try clear hb); (try clear ho0)) | ((with_reducible refine gate_callee (f := 25) rfl ?_); refine goesL_ (some 61) rfl rfl Try.func25 (by kernel_rfl) rfl #[.slice A2 l2.length c2] rfl (by (try simp only [List.map_toArray, List.map_cons, List.map_nil]); rfl) ?_; (with_reducible refine (peristyleref2_Decode.calls kj15 _ _ l2 t653 t654 _ ?side1 ?side2 A22.out).mono ?_); (case side1 => repeat (exact (Kd.C_below HR2.out HB.out))); (case side2 => exact HC2.out); rintro e w28 ⟨v655, rfl, ho0, hb⟩; refine ⟨_, rfl, ?_⟩; have n0_ := Aside0.mk (Kd.R_elder' (by exact HO652.out) (Kd.R_base ho0) hb); have n1_ := Aside0.mk (Kd.R_lower (Kd.R_new' ho0 (Kd.R_lt (by exact HO652.out))) (below_size (by exact HB.out))); have n2_ := Aside0.mk (below_step (by exact HB.out) hb); clear HO652; clear HB; have HO652 := n0_; have HO656 := n1_; have HB := n2_; clear n0_ n1_ n2_; (try clear hb); (try clear ho0); obtain ⟨Ao29, co29, eo29⟩ := Kd.R_slice HO652.out; subst eo29; obtain ⟨Ao30, co30, eo30⟩ := Kd.R_slice HO656.out; subst eo30) | (go_at_call 22; (with_reducible refine (slices_Equal_int_int.calls kj15 _ _ t649 _ _ t653 true _ ?side1 ?side2 ?side3 ?side4 A24.out).mono ?_); (case side1 => repeat (exact (Kd.R_reads' HO652.out).2.2)); (case side2 => exact (Kd.R_reads' HO652.out).2.1); (case side3 => repeat (exact (Kd.R_reads' HO656.out).2.2)); (case side4 => exact (Kd.R_reads' HO656.out).2.1); rintro e w' ⟨rfl, ⟨nd, rfl⟩⟩) | (go_at_call 13; (with_reducible refine (peristylelaw2_awake.calls kj15  t658 _ A26.out).mono ?_); rintro e w31 ⟨rfl, hb⟩; have n0_ := Aside0.mk (Kd.R_below (by (with_reducible repeat (apply Kd.R_drewN)); exact HO652.out) hb); have n1_ := Aside0.mk (Kd.R_below (by (with_reducible repeat (apply Kd.R_drewN)); exact HO656.out) hb); have n2_ := Aside0.mk (below_step (by repeat ((with_reducible first | exact HB.out | apply pw_below_drewN))) hb); clear HO652; clear HO656; clear HB; have HO652 := n0_; have HO656 := n1_; have HB := n2_; clear n0_ n1_ n2_; (try clear hb); (try clear hi)))
         go_ret
         exact ⟨by rfl, by exact HB.out⟩
        ·replace c25 := Bool.eq_false_iff.mpr c25
         subst c25
         have H1 : (some false) = some r := by rw [if_neg (show ¬ (false = true) by decide)] at H; exact H
         clear H
         have H := H1
         clear H1
         obtain rfl := Option.some.inj H
         go_wp2_with (first | ((with_reducible refine gate_callee (f := 21) rfl ?_); refine goesL_ (some 56) rfl rfl Try.func21 (by kernel_rfl) rfl #[.slice A2 l2.length c2] rfl (by (try simp only [List.map_toArray, List.map_cons, List.map_nil]); rfl) ?_; (with_reducible refine (encode_Decode.calls kj15 _ _ l2 t649 t650 _ ?side1 ?side2 A21.out).mono ?_); (case side1 => repeat (exact (Kd.C_below HR2.out HB.out))); (case side2 => exact HC2.out); rintro e w32 ⟨v651, rfl, ho0, hb⟩; refine ⟨_, rfl, ?_⟩; have n0_ := Aside0.mk (Kd.R_lower ho0 (below_size (by exact HB.out))); have n1_ := Aside0.mk (below_step (by exact HB.out) hb); clear HB; have HO652 := n0_; have HB := n1_; clear n0_ n1_; (try clear hb); (try clear ho0)) | ((with_reducible refine gate_callee (f := 25) rfl ?_); refine goesL_ (some 61) rfl rfl Try.func25 (by kernel_rfl) rfl #[.slice A2 l2.length c2] rfl (by (try simp only [List.map_toArray, List.map_cons, List.map_nil]); rfl) ?_; (with_reducible refine (peristyleref2_Decode.calls kj15 _ _ l2 t653 t654 _ ?side1 ?side2 A22.out).mono ?_); (case side1 => repeat (exact (Kd.C_below HR2.out HB.out))); (case side2 => exact HC2.out); rintro e w33 ⟨v655, rfl, ho0, hb⟩; refine ⟨_, rfl, ?_⟩; have n0_ := Aside0.mk (Kd.R_elder' (by exact HO652.out) (Kd.R_base ho0) hb); have n1_ := Aside0.mk (Kd.R_lower (Kd.R_new' ho0 (Kd.R_lt (by exact HO652.out))) (below_size (by exact HB.out))); have n2_ := Aside0.mk (below_step (by exact HB.out) hb); clear HO652; clear HB; have HO652 := n0_; have HO656 := n1_; have HB := n2_; clear n0_ n1_ n2_; (try clear hb); (try clear ho0); obtain ⟨Ao34, co34, eo34⟩ := Kd.R_slice HO652.out; subst eo34; obtain ⟨Ao35, co35, eo35⟩ := Kd.R_slice HO656.out; subst eo35) | (go_at_call 22; (with_reducible refine (slices_Equal_int_int.calls kj15 _ _ t649 _ _ t653 false _ ?side1 ?side2 ?side3 ?side4 A24.out).mono ?_); (case side1 => repeat (exact (Kd.R_reads' HO652.out).2.2)); (case side2 => exact (Kd.R_reads' HO652.out).2.1); (case side3 => repeat (exact (Kd.R_reads' HO656.out).2.2)); (case side4 => exact (Kd.R_reads' HO656.out).2.1); rintro e w' ⟨rfl, ⟨nd, rfl⟩⟩))
         go_ret
         exact ⟨by rfl, by repeat ((with_reducible first | exact HB.out | apply pw_below_drewN))⟩
       ·rw [if_neg c23] at H
        have c23b0 : (t650 == t654) = false := beq_eq_false_iff_ne.mpr c23
        have c23b1 : (t650 != t654) = true := bne_iff_ne.mpr c23
        obtain rfl := Option.some.inj H
        go_wp2_with (first | ((with_reducible refine gate_callee (f := 21) rfl ?_); refine goesL_ (some 56) rfl rfl Try.func21 (by kernel_rfl) rfl #[.slice A2 l2.length c2] rfl (by (try simp only [List.map_toArray, List.map_cons, List.map_nil]); rfl) ?_; (with_reducible refine (encode_Decode.calls kj15 _ _ l2 t649 t650 _ ?side1 ?side2 A21.out).mono ?_); (case side1 => repeat (exact (Kd.C_below HR2.out HB.out))); (case side2 => exact HC2.out); rintro e w36 ⟨v651, rfl, ho0, hb⟩; refine ⟨_, rfl, ?_⟩; have n0_ := Aside0.mk (Kd.R_lower ho0 (below_size (by exact HB.out))); have n1_ := Aside0.mk (below_step (by exact HB.out) hb); clear HB; have HO652 := n0_; have HB := n1_; clear n0_ n1_; (try clear hb); (try clear ho0)) | ((with_reducible refine gate_callee (f := 25) rfl ?_); refine goesL_ (some 61) rfl rfl Try.func25 (by kernel_rfl) rfl #[.slice A2 l2.length c2] rfl (by (try simp only [List.map_toArray, List.map_cons, List.map_nil]); rfl) ?_; (with_reducible refine (peristyleref2_Decode.calls kj15 _ _ l2 t653 t654 _ ?side1 ?side2 A22.out).mono ?_); (case side1 => repeat (exact (Kd.C_below HR2.out HB.out))); (case side2 => exact HC2.out); rintro e w37 ⟨v655, rfl, ho0, hb⟩; refine ⟨_, rfl, ?_⟩; have n0_ := Aside0.mk (Kd.R_elder' (by exact HO652.out) (Kd.R_base ho0) hb); have n1_ := Aside0.mk (Kd.R_lower (Kd.R_new' ho0 (Kd.R_lt (by exact HO652.out))) (below_size (by exact HB.out))); have n2_ := Aside0.mk (below_step (by exact HB.out) hb); clear HO652; clear HB; have HO652 := n0_; have HO656 := n1_; have HB := n2_; clear n0_ n1_ n2_; (try clear hb); (try clear ho0)))
        go_ret
        exact ⟨by rfl, by exact HB.out⟩

end Go.Proofs.Ythhdihnaicggiaa.I
