/- Printed by a program of this session (wip/tools/printh.py over the kit's printer): Lean functions that answer as the Go functions do, with the proofs of it. No conditions beyond those in each theorem. -/
import Derived.Test.YthhdihnaicggiaaI0
import Derived.Test.YthhdihnaicggiaaI1
import Derived.Test.YthhdihnaicggiaaI3
import Derived.Test.YthhdihnaicggiaaI4
import Derived.Test.YthhdihnaicggiaaI8
namespace Go.Proofs.Ythhdihnaicggiaa.I
open Go.RowKit Go.Proofs.YthhdihnaicggiaaW.PrintWords Go.Proofs.YthhdihnaicggiaaW.PrintLast Go.Proofs.YthhdihnaicggiaaW.PrintMore
attribute [local go_sem] max2_int min2_int max_two min_two max_three min_three max_four min_four   -- for this text's walks alone
set_option linter.unusedVariables false
set_option linter.unusedSimpArgs false

/-! ### encode_decode: function 61 -/
mutual
def encode_decode.j0 : Nat → List Int → Int → Int → List Int → Bool → List Int → Bool → Option (List Int × Bool)
 | 0, _, _, _, _, _, _, _ => none
 | k + 1, x0, x5, x6, x7, x26, x327000, x327001 => if x26 = true then ((encode_reader_values.f k x327000 x327001 x5 x6).bind fun bt334 => (encode_decode.j1 k x0 x5 bt334.1 bt334.2.1 bt334.2.2)) else (encode_decode.j1 k x0 x5 x7 x327000 x327001)
def encode_decode.j1 : Nat → List Int → Int → List Int → List Int → Bool → Option (List Int × Bool)
 | 0, _, _, _, _, _ => none
 | k + 1, x0, x5, x7, x327000, x327001 => if x327001 = true then (some (([] : List Int), false)) else ((encode_check.f k x7).bind fun t339 => (if t339 = 0 then ((encode_encode.f k x5 x7).bind fun t340 => ((bytes_Equal.f t340 x0).bind fun t343 => (if t343 = true then (some (x7, true)) else (some (([] : List Int), false))))) else (some (([] : List Int), false))))
end
def encode_decode.f (k : Nat) (l0 : List Int) : Option (List Int × Bool) := (encode_reader_byte.f l0 false).bind fun bt327 => ((encode_reader_long.f k bt327.2.1 bt327.2.2).bind fun bt330 => ((kit_In.f bt327.1 1 5).bind fun t333 => (if t333 = true then (if bt330.1 > 0 then (encode_decode.j0 k l0 bt327.1 bt330.1 ([] : List Int) (!bt330.2.2) bt330.2.1 bt330.2.2) else (encode_decode.j0 k l0 bt327.1 bt330.1 ([] : List Int) false bt330.2.1 bt330.2.2)) else (some (([] : List Int), false)))))
theorem encode_decode.mono_l : ∀ k, (∀ y0 y1 y2 y3 y4 y5 y6, LeO (encode_decode.j0 k y0 y1 y2 y3 y4 y5 y6) (encode_decode.j0 (k + 1) y0 y1 y2 y3 y4 y5 y6)) ∧ (∀ y0 y1 y2 y3 y4, LeO (encode_decode.j1 k y0 y1 y2 y3 y4) (encode_decode.j1 (k + 1) y0 y1 y2 y3 y4))
 | 0 => ⟨fun _ _ _ _ _ _ _ r h => by simp [encode_decode.j0] at h, fun _ _ _ _ _ r h => by simp [encode_decode.j1] at h⟩
 | k + 1 => by
  obtain ⟨ih0, ih1⟩ := encode_decode.mono_l k
  refine ⟨?_, ?_⟩ <;> intros
  all_goals (first | unfold encode_decode.j0 | unfold encode_decode.j1)
  all_goals
   repeat' first
   | (with_reducible exact ih1 _ _ _ _ _)
   | (with_reducible exact encode_check.mono _ _)
   | (with_reducible exact encode_encode.mono _ _ _)
   | (with_reducible exact encode_reader_values.mono _ _ _ _ _)
   | (with_reducible exact LeO.refl _)
   | (with_reducible refine LeO.ite ?_ ?_)
   | (with_reducible refine LeO.bind ?_ (fun _ => ?_))
theorem encode_decode.mono : ∀ a0 k, LeO (encode_decode.f k a0) (encode_decode.f (k + 1) a0) := by
 intro a0 k
 obtain ⟨ih0, ih1⟩ := encode_decode.mono_l k
 unfold encode_decode.f
 repeat' first
  | (with_reducible exact ih0 _ _ _ _ _ _ _)
  | (with_reducible exact encode_reader_long.mono _ _ _)
  | (with_reducible exact LeO.refl _)
  | (with_reducible refine LeO.ite ?_ ?_)
  | (with_reducible refine LeO.bind ?_ (fun _ => ?_))
set_option maxHeartbeats 8000000 in
set_option maxRecDepth 100000 in
theorem encode_decode.calls (k : Nat) (A0 : Option Addr) (c0 : Nat) (l0 : List Int) (r1 : List Int) (r2 : Bool) (w : World) (hr0 : Kd.C (Kd.int .u8) w A0 l0.length l0) (hc0 : l0.length ≤ c0) (h : encode_decode.f k l0 = some (r1, r2)) :
 Calls Try.prog 61 #[.slice A0 l0.length c0] w fun e w' => ∃ v0_ : Value, e = .returned (.tuple #[v0_, .bool r2]) ∧ Kd.R (Kd.int .i64) 3 w' w.heap.size (fun _ => True) v0_ r1 ∧ Below w.heap.size w w' := by
 have hu71 := Try.underlying71
 have HR0 := Aside0.mk hr0
 have HC0 := Aside0.mk hc0
 clear hr0 hc0
 have HB := Aside0.mk (Below.refl w.heap.size w)
 have H : ((encode_reader_byte.f l0 false).bind fun bt327 => ((encode_reader_long.f k bt327.2.1 bt327.2.2).bind fun bt330 => ((kit_In.f bt327.1 1 5).bind fun t333 => (if t333 = true then (if bt330.1 > 0 then (encode_decode.j0 k l0 bt327.1 bt330.1 ([] : List Int) (!bt330.2.2) bt330.2.1 bt330.2.2) else (encode_decode.j0 k l0 bt327.1 bt330.1 ([] : List Int) false bt330.2.1 bt330.2.2)) else (some (([] : List Int), false)))))) = some (r1, r2) := h
 clear h
 replace H := Option.bind_eq_some_iff.mp H
 obtain ⟨⟨t327, t328, t329⟩, A20, H⟩ := H
 replace H : ((encode_reader_long.f k t328 t329).bind fun bt330 => ((kit_In.f t327 1 5).bind fun t333 => (if t333 = true then (if bt330.1 > 0 then (encode_decode.j0 k l0 t327 bt330.1 ([] : List Int) (!bt330.2.2) bt330.2.1 bt330.2.2) else (encode_decode.j0 k l0 t327 bt330.1 ([] : List Int) false bt330.2.1 bt330.2.2)) else (some (([] : List Int), false))))) = some (r1, r2) := H
 have A2 := Aside0.mk A20
 clear A20
 replace H := Option.bind_eq_some_iff.mp H
 obtain ⟨⟨t330, t331, t332⟩, A30, H⟩ := H
 replace H : ((kit_In.f t327 1 5).bind fun t333 => (if t333 = true then (if t330 > 0 then (encode_decode.j0 k l0 t327 t330 ([] : List Int) (!t332) t331 t332) else (encode_decode.j0 k l0 t327 t330 ([] : List Int) false t331 t332)) else (some (([] : List Int), false)))) = some (r1, r2) := H
 have A3 := Aside0.mk A30
 clear A30
 replace H := Option.bind_eq_some_iff.mp H
 obtain ⟨t333, A40, H⟩ := H
 replace H : (if t333 = true then (if t330 > 0 then (encode_decode.j0 k l0 t327 t330 ([] : List Int) (!t332) t331 t332) else (encode_decode.j0 k l0 t327 t330 ([] : List Int) false t331 t332)) else (some (([] : List Int), false))) = some (r1, r2) := H
 have A4 := Aside0.mk A40
 clear A40
 by_cases c5 : t333 = true
 ·subst c5
  have H1 : (if t330 > 0 then (encode_decode.j0 k l0 t327 t330 ([] : List Int) (!t332) t331 t332) else (encode_decode.j0 k l0 t327 t330 ([] : List Int) false t331 t332)) = some (r1, r2) := by rw [if_pos rfl] at H; exact H
  clear H
  have H := H1
  clear H1
  have HC6 := Aside0.mk H
  clear H
  go_enter Try.func61, Try.ntmps61
  go_upto_region 6 with (first | ((with_reducible refine gate_dst (N := 10) rfl ?_); refine box_event ?hg (N := 10) ?hd (cs := #[.slice A0 l0.length c0, .bool false]) (t := 71) ?hr ?_; (case hd => rfl); (case hg => rfl); (case hr => (go_simp; done)); intro gb326 hg w7 hbox hb; have n0_ := Aside0.mk (below_step (by exact HB.out) hb); have n1_ := Aside0.mk ((by rw [hg]; exact (below_size (by exact HB.out)) : w.heap.size ≤ gb326)); have n2_ := Aside0.mk ((by rw [hg]; exact (below_size (by exact HB.out)) : w.heap.size ≤ gb326)); have n3_ := Aside0.mk ((show IsS71 w w7 gb326 l0 false from ⟨_, _, hbox, (by rw [hg]; exact (below_size (by exact HB.out)) : w.heap.size ≤ gb326), ⟨HC0.out, HR0.out⟩⟩)); clear HB; have HB := n0_; have GW326 := n1_; have GE326 := n2_; have HI326 := n3_; clear n0_ n1_ n2_ n3_; clear hb hbox hg) | ((with_reducible refine gate_callee (f := 56) rfl ?_); refine goesL_ (some 12) rfl rfl Try.func56 (by kernel_rfl) rfl #[.pointer (some ⟨gb326, 0, none⟩)] rfl (by (try simp only [List.map_toArray, List.map_cons, List.map_nil]); rfl) ?_; (with_reducible refine (encode_reader_byte.calls gb326 l0 false t327 t328 t329 w _ ?side1 ?side2 A2.out).mono ?_); (case side1 => exact HI326.out); (case side2 => exact HB.out); rintro e w8 ⟨rfl, hi, hb, hk⟩; refine ⟨_, rfl, ?_⟩; have n0_ := Aside0.mk (hb); have n1_ := Aside0.mk (hi); clear HB; clear HI326; have HB := n0_; have HI326 := n1_; clear n0_ n1_; (try clear hb); (try clear hk); (try clear hi)) | ((with_reducible refine gate_callee (f := 79) rfl ?_); refine goesL_ (some 14) rfl rfl Try.func79 (by kernel_rfl) rfl #[.pointer (some ⟨gb326, 0, none⟩)] rfl (by (try simp only [List.map_toArray, List.map_cons, List.map_nil]); rfl) ?_; (with_reducible refine (encode_reader_long.calls k gb326 t328 t329 t330 t331 t332 w _ ?side1 ?side2 A3.out).mono ?_); (case side1 => exact HI326.out); (case side2 => exact HB.out); rintro e w9 ⟨rfl, hi, hb, hk⟩; refine ⟨_, rfl, ?_⟩; have n0_ := Aside0.mk (hb); have n1_ := Aside0.mk (hi); clear HB; clear HI326; have HB := n0_; have HI326 := n1_; clear n0_ n1_; (try clear hb); (try clear hk); (try clear hi)) | ((with_reducible refine gate_callee (f := 52) rfl ?_); refine goesL_ (some 16) rfl rfl Try.func52 (by kernel_rfl) rfl #[.int .i64 t327, .int .i64 1, .int .i64 5] rfl (by (try simp only [List.map_toArray, List.map_cons, List.map_nil]); rfl) ?_; (with_reducible refine (kit_In.calls t327 1 5 true _ A4.out).mono ?_); rintro e w' ⟨rfl, ⟨nd, rfl⟩⟩; refine ⟨_, rfl, ?_⟩))
  (try simp only [Act.put, List.setIfInBounds_toArray, List.set_cons_zero, List.set_cons_succ])
  go_cut [26] (fun v26 wc => ∃ (kq : Nat) (x26_5 : Bool), v26 = .bool x26_5 ∧ Aside0 (encode_decode.j0 kq l0 t327 t330 ([] : List Int) x26_5 t331 t332 = some (r1, r2)) ∧ Aside0 (kq ≤ k) ∧ Aside0 (Kd.R (Kd.int .i64) 3 wc w.heap.size (fun _ => True) (.slice none 0 0) ([] : List Int)) ∧ Aside0 (IsS71 w wc gb326 t331 t332) ∧ Aside0 (Below w.heap.size w wc))
  case first =>
   have H := HC6.out
   clear HC6
   by_cases c10 : t330 > 0
   ·rw [if_pos c10] at H
    have c10b0 : decide (0 < t330) = true := decide_eq_true c10
    clear c10
    (skip)
    (try rw [c10b1])
    have H' := Aside0.mk H
    clear H
    obtain ⟨ASz11_0, cSz11_0, HGz11, hgz11, HSz11_0⟩ := HI326.out
    have hcz11_0 := cellS71_0 HGz11
    have hcz11_1 := cellS71_1 HGz11
    have hfz11_0 := blk_frozen HGz11 0
    have hfz11_1 := blk_frozen HGz11 1
    have HCSz11_0 := HSz11_0.1
    replace HSz11_0 := HSz11_0.2
    clear HGz11 hgz11
    go_wp2
    go_meet
    case rel => exact ⟨_, (!t332), (by rfl), H', ⟨by omega⟩, ⟨by exact Kd.R_nil _ _ _ _ _⟩, ⟨by repeat ((with_reducible first | exact HI326.out | apply IsS71.drewN ))⟩, ⟨by repeat ((with_reducible first | exact HB.out | apply pw_below_drewN ))⟩⟩
   ·rw [if_neg c10] at H
    have c10b0 : decide (0 < t330) = false := decide_eq_false c10
    clear c10
    (skip)
    (try rw [c10b1])
    have H' := Aside0.mk H
    clear H
    go_wp2
    go_meet
    case rel => exact ⟨_, (false), (by rfl), H', ⟨by omega⟩, ⟨by exact Kd.R_nil _ _ _ _ _⟩, ⟨by repeat ((with_reducible first | exact HI326.out | apply IsS71.drewN ))⟩, ⟨by repeat ((with_reducible first | exact HB.out | apply pw_below_drewN ))⟩⟩
  case rest =>
   clear HC6
   obtain ⟨kq, x26_5, rfl, HA, HJ5, HO_7, HI326, HB⟩ := hcut
   cases kq with
   | zero => exact absurd HA.out (by simp [encode_decode.j0])
   | succ kj5 =>
    have H := HA.out
    clear HA
    simp only [encode_decode.j0] at H
    have HC12 := Aside0.mk H
    clear H
    go_upto_if 26 with (fail)
    go_cut [7] (fun v7 wc => ∃ (kq : Nat) (x7_11 : List Int) (x327000_11 : List Int) (x327001_11 : Bool), Aside0 (encode_decode.j1 kq l0 t327 x7_11 x327000_11 x327001_11 = some (r1, r2)) ∧ Aside0 (kq ≤ kj5) ∧ Aside0 (Kd.R (Kd.int .i64) 3 wc w.heap.size (fun _ => True) v7 x7_11) ∧ Aside0 (IsS71 w wc gb326 x327000_11 x327001_11) ∧ Aside0 (Below w.heap.size w wc))
    case first =>
     have H := HC12.out
     clear HC12
     by_cases c13 : x26_5 = true
     ·subst c13
      have H1 : ((encode_reader_values.f kj5 t331 t332 t327 t330).bind fun bt334 => (encode_decode.j1 kj5 l0 t327 bt334.1 bt334.2.1 bt334.2.2)) = some (r1, r2) := by rw [if_pos rfl] at H; exact H
      clear H
      have H := H1
      clear H1
      replace H := Option.bind_eq_some_iff.mp H
      obtain ⟨⟨t334, t337, t338⟩, A140, H⟩ := H
      replace H : (encode_decode.j1 kj5 l0 t327 t334 t337 t338) = some (r1, r2) := H
      have A14 := Aside0.mk A140
      clear A140
      have H' := Aside0.mk H
      clear H
      go_wp2_with (first | ((with_reducible refine gate_callee (f := 80) rfl ?_); refine goesL_ (some 30) rfl rfl Try.func80 (by kernel_rfl) rfl #[.pointer (some ⟨gb326, 0, none⟩), .int .i64 t327, .int .i64 t330] rfl (by (try simp only [List.map_toArray, List.map_cons, List.map_nil]); rfl) ?_; (with_reducible refine (encode_reader_values.calls kj5 gb326 t331 t332 t327 t330 t334 t337 t338 w _ ?side1 ?side2 A14.out).mono ?_); (case side1 => exact HI326.out); (case side2 => exact HB.out); rintro e w15 ⟨v335, rfl, ho0, hi, hb, hk⟩; refine ⟨_, rfl, ?_⟩; have n0_ := Aside0.mk (Kd.R_mono (Kd.R_told (Kd.R_oldK (IsS71.apart (show IsS71 w _ gb326 t331 t332 from by exact HI326.out) (by exact HO_7.out) (by decide)) hk) (Kd.R_base ho0)) (fun _ h_ => h_.1)); have n1_ := Aside0.mk (Kd.R_lower (Kd.R_new' ho0 (Kd.R_lt (by exact HO_7.out))) (below_size (by exact HB.out))); have n2_ := Aside0.mk (hb); have n3_ := Aside0.mk (hi); clear HO_7; clear HB; clear HI326; have HO_7 := n0_; have HO336 := n1_; have HB := n2_; have HI326 := n3_; clear n0_ n1_ n2_ n3_; (try clear hb); (try clear hk); (try clear hi); (try clear ho0)))
      go_meet
      case rel => exact ⟨_, (t334), (t337), (t338), H', ⟨by have := HJ5.out; omega⟩, ⟨by exact Kd.R_mono HO336.out (fun _ hk => trivial)⟩, ⟨by exact HI326.out⟩, ⟨by exact HB.out⟩⟩
     ·replace c13 := Bool.eq_false_iff.mpr c13
      subst c13
      have H1 : (encode_decode.j1 kj5 l0 t327 ([] : List Int) t331 t332) = some (r1, r2) := by rw [if_neg (show ¬ (false = true) by decide)] at H; exact H
      clear H
      have H := H1
      clear H1
      have H' := Aside0.mk H
      clear H
      go_wp2
      go_meet
      case rel => exact ⟨_, (([] : List Int)), (t331), (t332), H', ⟨by have := HJ5.out; omega⟩, ⟨by exact HO_7.out⟩, ⟨by exact HI326.out⟩, ⟨by exact HB.out⟩⟩
    case rest =>
     clear HC12
     obtain ⟨kq, x7_11, x327000_11, x327001_11, HA, HJ11, HO_7, HI326, HB⟩ := hcut
     cases kq with
     | zero => exact absurd HA.out (by simp [encode_decode.j1])
     | succ kj11 =>
      have H := HA.out
      clear HA
      simp only [encode_decode.j1] at H
      by_cases c16 : x327001_11 = true
      ·subst c16
       have H1 : (some (([] : List Int), false)) = some (r1, r2) := by rw [if_pos rfl] at H; exact H
       clear H
       have H := H1
       clear H1
       simp only [Option.some.injEq, Prod.mk.injEq] at H
       obtain ⟨rfl, rfl⟩ := H
       obtain ⟨ASz17_0, cSz17_0, HGz17, hgz17, HSz17_0⟩ := HI326.out
       have hcz17_0 := cellS71_0 HGz17
       have hcz17_1 := cellS71_1 HGz17
       have hfz17_0 := blk_frozen HGz17 0
       have hfz17_1 := blk_frozen HGz17 1
       have HCSz17_0 := HSz17_0.1
       replace HSz17_0 := HSz17_0.2
       clear HGz17 hgz17
       go_wp2
       go_ret2
       exact ⟨_, by rfl, by exact Kd.R_nil _ _ _ _ _, by exact HB.out⟩
      ·replace c16 := Bool.eq_false_iff.mpr c16
       subst c16
       have H1 : ((encode_check.f kj11 x7_11).bind fun t339 => (if t339 = 0 then ((encode_encode.f kj11 t327 x7_11).bind fun t340 => ((bytes_Equal.f t340 l0).bind fun t343 => (if t343 = true then (some (x7_11, true)) else (some (([] : List Int), false))))) else (some (([] : List Int), false)))) = some (r1, r2) := by rw [if_neg (show ¬ (false = true) by decide)] at H; exact H
       clear H
       have H := H1
       clear H1
       replace H := Option.bind_eq_some_iff.mp H
       obtain ⟨t339, A180, H⟩ := H
       replace H : (if t339 = 0 then ((encode_encode.f kj11 t327 x7_11).bind fun t340 => ((bytes_Equal.f t340 l0).bind fun t343 => (if t343 = true then (some (x7_11, true)) else (some (([] : List Int), false))))) else (some (([] : List Int), false))) = some (r1, r2) := H
       have A18 := Aside0.mk A180
       clear A180
       by_cases c19 : t339 = 0
       ·rw [if_pos c19] at H
        have c19b0 : (t339 == 0) = true := beq_iff_eq.mpr c19
        have c19b1 : (t339 != 0) = false := bne_eq_false_iff_eq.mpr c19
        clear c19
        replace H := Option.bind_eq_some_iff.mp H
        obtain ⟨t340, A200, H⟩ := H
        replace H : ((bytes_Equal.f t340 l0).bind fun t343 => (if t343 = true then (some (x7_11, true)) else (some (([] : List Int), false)))) = some (r1, r2) := H
        have A20 := Aside0.mk A200
        clear A200
        replace H := Option.bind_eq_some_iff.mp H
        obtain ⟨t343, A210, H⟩ := H
        replace H : (if t343 = true then (some (x7_11, true)) else (some (([] : List Int), false))) = some (r1, r2) := H
        have A21 := Aside0.mk A210
        clear A210
        by_cases c22 : t343 = true
        ·subst c22
         have H1 : (some (x7_11, true)) = some (r1, r2) := by rw [if_pos rfl] at H; exact H
         clear H
         have H := H1
         clear H1
         simp only [Option.some.injEq, Prod.mk.injEq] at H
         obtain ⟨rfl, rfl⟩ := H
         obtain ⟨ASz23_0, cSz23_0, HGz23, hgz23, HSz23_0⟩ := HI326.out
         have hcz23_0 := cellS71_0 HGz23
         have hcz23_1 := cellS71_1 HGz23
         have hfz23_0 := blk_frozen HGz23 0
         have hfz23_1 := blk_frozen HGz23 1
         have HCSz23_0 := HSz23_0.1
         replace HSz23_0 := HSz23_0.2
         clear HGz23 hgz23
         obtain ⟨Ao24, co24, eo24⟩ := Kd.R_slice HO_7.out
         subst eo24
         go_wp2_with (first | (go_at_call 50; (with_reducible refine (encode_check.calls kj11 _ _ x7_11 t339 _ ?side1 ?side2 A18.out).mono ?_); (case side1 => repeat (exact (Kd.R_reads' HO_7.out).2.2)); (case side2 => exact (Kd.R_reads' HO_7.out).2.1); rintro e w' ⟨rfl, ⟨nd, rfl⟩⟩) | (go_at_call 53; (with_reducible refine (encode_encode.calls kj11 t327 _ _ x7_11 t340 _ ?side1 ?side2 A20.out).mono ?_); (case side1 => repeat (exact (Kd.R_reads' HO_7.out).2.2)); (case side2 => exact (Kd.R_reads' HO_7.out).2.1); rintro e w25 ⟨v341, rfl, ho0, hb⟩; have n0_ := Aside0.mk (Kd.R_below (by (with_reducible repeat (apply Kd.R_drewN)); exact HO_7.out) hb); have n1_ := Aside0.mk (Kd.R_lower ho0 (below_size (by repeat ((with_reducible first | exact HB.out | apply pw_below_drewN ))))); have n2_ := Aside0.mk (IsS71.below (by repeat ((with_reducible first | exact HI326.out | apply IsS71.drewN ))) hb); have n3_ := Aside0.mk (below_step (by repeat ((with_reducible first | exact HB.out | apply pw_below_drewN ))) hb); clear HO_7; clear HI326; clear HB; have HO_7 := n0_; have HO342 := n1_; have HI326 := n2_; have HB := n3_; clear n0_ n1_ n2_ n3_; (try clear hb); (try clear ho0); obtain ⟨Ao26, co26, eo26⟩ := Kd.R_slice HO342.out; subst eo26) | (go_at_call 58; (with_reducible refine (bytes_Equal.calls _ _ t340 _ _ l0 true _ ?side1 ?side2 ?side3 ?side4 A21.out).mono ?_); (case side1 => repeat (exact (Kd.R_reads' HO342.out).2.2)); (case side2 => exact (Kd.R_reads' HO342.out).2.1); (case side3 => repeat (exact (Kd.C_below HR0.out HB.out))); (case side4 => exact HC0.out); rintro e w' ⟨rfl, ⟨nd, rfl⟩⟩))
         go_ret2
         exact ⟨_, by rfl, by (with_reducible repeat (apply Kd.R_drewN)); exact HO_7.out, by repeat ((with_reducible first | exact HB.out | apply pw_below_drewN ))⟩
        ·replace c22 := Bool.eq_false_iff.mpr c22
         subst c22
         have H1 : (some (([] : List Int), false)) = some (r1, r2) := by rw [if_neg (show ¬ (false = true) by decide)] at H; exact H
         clear H
         have H := H1
         clear H1
         simp only [Option.some.injEq, Prod.mk.injEq] at H
         obtain ⟨rfl, rfl⟩ := H
         obtain ⟨ASz27_0, cSz27_0, HGz27, hgz27, HSz27_0⟩ := HI326.out
         have hcz27_0 := cellS71_0 HGz27
         have hcz27_1 := cellS71_1 HGz27
         have hfz27_0 := blk_frozen HGz27 0
         have hfz27_1 := blk_frozen HGz27 1
         have HCSz27_0 := HSz27_0.1
         replace HSz27_0 := HSz27_0.2
         clear HGz27 hgz27
         obtain ⟨Ao28, co28, eo28⟩ := Kd.R_slice HO_7.out
         subst eo28
         go_wp2_with (first | (go_at_call 50; (with_reducible refine (encode_check.calls kj11 _ _ x7_11 t339 _ ?side1 ?side2 A18.out).mono ?_); (case side1 => repeat (exact (Kd.R_reads' HO_7.out).2.2)); (case side2 => exact (Kd.R_reads' HO_7.out).2.1); rintro e w' ⟨rfl, ⟨nd, rfl⟩⟩) | (go_at_call 53; (with_reducible refine (encode_encode.calls kj11 t327 _ _ x7_11 t340 _ ?side1 ?side2 A20.out).mono ?_); (case side1 => repeat (exact (Kd.R_reads' HO_7.out).2.2)); (case side2 => exact (Kd.R_reads' HO_7.out).2.1); rintro e w29 ⟨v341, rfl, ho0, hb⟩; have n0_ := Aside0.mk (Kd.R_below (by (with_reducible repeat (apply Kd.R_drewN)); exact HO_7.out) hb); have n1_ := Aside0.mk (Kd.R_lower ho0 (below_size (by repeat ((with_reducible first | exact HB.out | apply pw_below_drewN ))))); have n2_ := Aside0.mk (IsS71.below (by repeat ((with_reducible first | exact HI326.out | apply IsS71.drewN ))) hb); have n3_ := Aside0.mk (below_step (by repeat ((with_reducible first | exact HB.out | apply pw_below_drewN ))) hb); clear HO_7; clear HI326; clear HB; have HO_7 := n0_; have HO342 := n1_; have HI326 := n2_; have HB := n3_; clear n0_ n1_ n2_ n3_; (try clear hb); (try clear ho0); obtain ⟨Ao30, co30, eo30⟩ := Kd.R_slice HO342.out; subst eo30) | (go_at_call 58; (with_reducible refine (bytes_Equal.calls _ _ t340 _ _ l0 false _ ?side1 ?side2 ?side3 ?side4 A21.out).mono ?_); (case side1 => repeat (exact (Kd.R_reads' HO342.out).2.2)); (case side2 => exact (Kd.R_reads' HO342.out).2.1); (case side3 => repeat (exact (Kd.C_below HR0.out HB.out))); (case side4 => exact HC0.out); rintro e w' ⟨rfl, ⟨nd, rfl⟩⟩))
         go_ret2
         exact ⟨_, by rfl, by exact Kd.R_nil _ _ _ _ _, by repeat ((with_reducible first | exact HB.out | apply pw_below_drewN ))⟩
       ·rw [if_neg c19] at H
        have c19b0 : (t339 == 0) = false := beq_eq_false_iff_ne.mpr c19
        have c19b1 : (t339 != 0) = true := bne_iff_ne.mpr c19
        simp only [Option.some.injEq, Prod.mk.injEq] at H
        obtain ⟨rfl, rfl⟩ := H
        obtain ⟨ASz31_0, cSz31_0, HGz31, hgz31, HSz31_0⟩ := HI326.out
        have hcz31_0 := cellS71_0 HGz31
        have hcz31_1 := cellS71_1 HGz31
        have hfz31_0 := blk_frozen HGz31 0
        have hfz31_1 := blk_frozen HGz31 1
        have HCSz31_0 := HSz31_0.1
        replace HSz31_0 := HSz31_0.2
        clear HGz31 hgz31
        obtain ⟨Ao32, co32, eo32⟩ := Kd.R_slice HO_7.out
        subst eo32
        go_wp2_with (first | (go_at_call 50; (with_reducible refine (encode_check.calls kj11 _ _ x7_11 t339 _ ?side1 ?side2 A18.out).mono ?_); (case side1 => repeat (exact (Kd.R_reads' HO_7.out).2.2)); (case side2 => exact (Kd.R_reads' HO_7.out).2.1); rintro e w' ⟨rfl, ⟨nd, rfl⟩⟩))
        go_ret2
        exact ⟨_, by rfl, by exact Kd.R_nil _ _ _ _ _, by repeat ((with_reducible first | exact HB.out | apply pw_below_drewN ))⟩
 ·replace c5 := Bool.eq_false_iff.mpr c5
  subst c5
  have H1 : (some (([] : List Int), false)) = some (r1, r2) := by rw [if_neg (show ¬ (false = true) by decide)] at H; exact H
  clear H
  have H := H1
  clear H1
  simp only [Option.some.injEq, Prod.mk.injEq] at H
  obtain ⟨rfl, rfl⟩ := H
  go_enter Try.func61, Try.ntmps61
  go_wp2_with (first | ((with_reducible refine gate_dst (N := 10) rfl ?_); refine box_event ?hg (N := 10) ?hd (cs := #[.slice A0 l0.length c0, .bool false]) (t := 71) ?hr ?_; (case hd => rfl); (case hg => rfl); (case hr => (go_simp; done)); intro gb326 hg w33 hbox hb; have n0_ := Aside0.mk (below_step (by exact HB.out) hb); have n1_ := Aside0.mk ((by rw [hg]; exact (below_size (by exact HB.out)) : w.heap.size ≤ gb326)); have n2_ := Aside0.mk ((by rw [hg]; exact (below_size (by exact HB.out)) : w.heap.size ≤ gb326)); have n3_ := Aside0.mk ((show IsS71 w w33 gb326 l0 false from ⟨_, _, hbox, (by rw [hg]; exact (below_size (by exact HB.out)) : w.heap.size ≤ gb326), ⟨HC0.out, HR0.out⟩⟩)); clear HB; have HB := n0_; have GW326 := n1_; have GE326 := n2_; have HI326 := n3_; clear n0_ n1_ n2_ n3_; clear hb hbox hg) | ((with_reducible refine gate_callee (f := 56) rfl ?_); refine goesL_ (some 12) rfl rfl Try.func56 (by kernel_rfl) rfl #[.pointer (some ⟨gb326, 0, none⟩)] rfl (by (try simp only [List.map_toArray, List.map_cons, List.map_nil]); rfl) ?_; (with_reducible refine (encode_reader_byte.calls gb326 l0 false t327 t328 t329 w _ ?side1 ?side2 A2.out).mono ?_); (case side1 => exact HI326.out); (case side2 => exact HB.out); rintro e w34 ⟨rfl, hi, hb, hk⟩; refine ⟨_, rfl, ?_⟩; have n0_ := Aside0.mk (hb); have n1_ := Aside0.mk (hi); clear HB; clear HI326; have HB := n0_; have HI326 := n1_; clear n0_ n1_; (try clear hb); (try clear hk); (try clear hi)) | ((with_reducible refine gate_callee (f := 79) rfl ?_); refine goesL_ (some 14) rfl rfl Try.func79 (by kernel_rfl) rfl #[.pointer (some ⟨gb326, 0, none⟩)] rfl (by (try simp only [List.map_toArray, List.map_cons, List.map_nil]); rfl) ?_; (with_reducible refine (encode_reader_long.calls k gb326 t328 t329 t330 t331 t332 w _ ?side1 ?side2 A3.out).mono ?_); (case side1 => exact HI326.out); (case side2 => exact HB.out); rintro e w35 ⟨rfl, hi, hb, hk⟩; refine ⟨_, rfl, ?_⟩; have n0_ := Aside0.mk (hb); have n1_ := Aside0.mk (hi); clear HB; clear HI326; have HB := n0_; have HI326 := n1_; clear n0_ n1_; (try clear hb); (try clear hk); (try clear hi)) | ((with_reducible refine gate_callee (f := 52) rfl ?_); refine goesL_ (some 16) rfl rfl Try.func52 (by kernel_rfl) rfl #[.int .i64 t327, .int .i64 1, .int .i64 5] rfl (by (try simp only [List.map_toArray, List.map_cons, List.map_nil]); rfl) ?_; (with_reducible refine (kit_In.calls t327 1 5 false _ A4.out).mono ?_); rintro e w' ⟨rfl, ⟨nd, rfl⟩⟩; refine ⟨_, rfl, ?_⟩))
  go_ret2
  exact ⟨_, by rfl, by exact Kd.R_nil _ _ _ _ _, by repeat ((with_reducible first | exact HB.out | apply pw_below_drewN ))⟩

/-! ### encode_Decode: function 21 -/
def encode_Decode.f (k : Nat) (l0 : List Int) : Option (List Int × Int) := if (l0.length : Int) > 500000 then (some (([] : List Int), 2)) else ((encode_decode.f k l0).bind fun bt344 => (if bt344.2 = true then (some (bt344.1, 0)) else (some (([] : List Int), 3))))
theorem encode_Decode.mono : ∀ a0 k, LeO (encode_Decode.f k a0) (encode_Decode.f (k + 1) a0) := by
 intro a0 k
 unfold encode_Decode.f
 repeat' first
  | (with_reducible exact encode_decode.mono _ _)
  | (with_reducible exact LeO.refl _)
  | (with_reducible refine LeO.ite ?_ ?_)
  | (with_reducible refine LeO.bind ?_ (fun _ => ?_))
set_option maxHeartbeats 8000000 in
set_option maxRecDepth 100000 in
theorem encode_Decode.calls (k : Nat) (A0 : Option Addr) (c0 : Nat) (l0 : List Int) (r1 : List Int) (r2 : Int) (w : World) (hr0 : Kd.C (Kd.int .u8) w A0 l0.length l0) (hc0 : l0.length ≤ c0) (h : encode_Decode.f k l0 = some (r1, r2)) :
 Calls Try.prog 21 #[.slice A0 l0.length c0] w fun e w' => ∃ v0_ : Value, e = .returned (.tuple #[v0_, .int .i64 r2]) ∧ Kd.R (Kd.int .i64) 3 w' w.heap.size (fun _ => True) v0_ r1 ∧ Below w.heap.size w w' := by
 have HR0 := Aside0.mk hr0
 have HC0 := Aside0.mk hc0
 clear hr0 hc0
 have HB := Aside0.mk (Below.refl w.heap.size w)
 have H : (if (l0.length : Int) > 500000 then (some (([] : List Int), 2)) else ((encode_decode.f k l0).bind fun bt344 => (if bt344.2 = true then (some (bt344.1, 0)) else (some (([] : List Int), 3))))) = some (r1, r2) := h
 clear h
 by_cases c2 : (l0.length : Int) > 500000
 ·rw [if_pos c2] at H
  have c2b0 : decide (500000 < (l0.length : Int)) = true := decide_eq_true c2
  have c2b1 : decide (500000 < l0.length) = true := decide_eq_true (by omega)
  clear c2
  simp only [Option.some.injEq, Prod.mk.injEq] at H
  obtain ⟨rfl, rfl⟩ := H
  go_enter Try.func21, Try.ntmps21
  go_wp2
  go_ret2
  exact ⟨_, by rfl, by exact Kd.R_nil _ _ _ _ _, by exact HB.out⟩
 ·rw [if_neg c2] at H
  have c2b0 : decide (500000 < (l0.length : Int)) = false := decide_eq_false c2
  have c2b1 : decide (500000 < l0.length) = false := decide_eq_false (by omega)
  clear c2
  replace H := Option.bind_eq_some_iff.mp H
  obtain ⟨⟨t344, t345⟩, A30, H⟩ := H
  replace H : (if t345 = true then (some (t344, 0)) else (some (([] : List Int), 3))) = some (r1, r2) := H
  have A3 := Aside0.mk A30
  clear A30
  by_cases c4 : t345 = true
  ·subst c4
   have H1 : (some (t344, 0)) = some (r1, r2) := by rw [if_pos rfl] at H; exact H
   clear H
   have H := H1
   clear H1
   simp only [Option.some.injEq, Prod.mk.injEq] at H
   obtain ⟨rfl, rfl⟩ := H
   go_enter Try.func21, Try.ntmps21
   go_wp2_with (first | ((with_reducible refine gate_callee (f := 61) rfl ?_); refine goesL_ (some 11) rfl rfl Try.func61 (by kernel_rfl) rfl #[.slice A0 l0.length c0] rfl (by (try simp only [List.map_toArray, List.map_cons, List.map_nil]); rfl) ?_; (with_reducible refine (encode_decode.calls k _ _ l0 t344 true _ ?side1 ?side2 A3.out).mono ?_); (case side1 => repeat (exact HR0.out)); (case side2 => exact HC0.out); rintro e w5 ⟨v346, rfl, ho0, hb⟩; refine ⟨_, rfl, ?_⟩; have n0_ := Aside0.mk (Kd.R_lower ho0 (below_size (by exact HB.out))); have n1_ := Aside0.mk (below_step (by exact HB.out) hb); clear HB; have HO347 := n0_; have HB := n1_; clear n0_ n1_; (try clear hb); (try clear ho0)))
   go_ret2
   exact ⟨_, by rfl, by exact HO347.out, by exact HB.out⟩
  ·replace c4 := Bool.eq_false_iff.mpr c4
   subst c4
   have H1 : (some (([] : List Int), 3)) = some (r1, r2) := by rw [if_neg (show ¬ (false = true) by decide)] at H; exact H
   clear H
   have H := H1
   clear H1
   simp only [Option.some.injEq, Prod.mk.injEq] at H
   obtain ⟨rfl, rfl⟩ := H
   go_enter Try.func21, Try.ntmps21
   go_wp2_with (first | ((with_reducible refine gate_callee (f := 61) rfl ?_); refine goesL_ (some 11) rfl rfl Try.func61 (by kernel_rfl) rfl #[.slice A0 l0.length c0] rfl (by (try simp only [List.map_toArray, List.map_cons, List.map_nil]); rfl) ?_; (with_reducible refine (encode_decode.calls k _ _ l0 t344 false _ ?side1 ?side2 A3.out).mono ?_); (case side1 => repeat (exact HR0.out)); (case side2 => exact HC0.out); rintro e w6 ⟨v346, rfl, ho0, hb⟩; refine ⟨_, rfl, ?_⟩; have n0_ := Aside0.mk (Kd.R_lower ho0 (below_size (by exact HB.out))); have n1_ := Aside0.mk (below_step (by exact HB.out) hb); clear HB; have HO347 := n0_; have HB := n1_; clear n0_ n1_; (try clear hb); (try clear ho0)))
   go_ret2
   exact ⟨_, by rfl, by exact Kd.R_nil _ _ _ _ _, by exact HB.out⟩

/-! ### slices_Equal_int_int: function 22 -/
def slices_Equal_int_int.l0 : Nat → List Int → List Int → Int → Int → Option (Bool)
 | 0, _, _, _, _ => none
 | k + 1, x0, x1, x12, x13 => if x13 < x12 then (if 0 ≤ x13 then (if x13 < (x0.length : Int) then (if x13 < (x1.length : Int) then (if (rd x0 x13) = (rd x1 x13) then (slices_Equal_int_int.l0 k x0 x1 x12 (wrap64 (x13 + 1))) else (some false)) else (none)) else (none)) else (none)) else (some true)
def slices_Equal_int_int.f (k : Nat) (l0 : List Int) (l1 : List Int) : Option (Bool) := if (l0.length : Int) = (l1.length : Int) then (slices_Equal_int_int.l0 k l0 l1 (l0.length : Int) 0) else (some false)
theorem slices_Equal_int_int.mono_l : ∀ k, (∀ y0 y1 y2 y3, LeO (slices_Equal_int_int.l0 k y0 y1 y2 y3) (slices_Equal_int_int.l0 (k + 1) y0 y1 y2 y3))
 | 0 => fun _ _ _ _ r h => by simp [slices_Equal_int_int.l0] at h
 | k + 1 => by
  have ih0 := slices_Equal_int_int.mono_l k
  ·intro y0 y1 y2 y3
   unfold slices_Equal_int_int.l0
   repeat' first
   | (with_reducible exact ih0 _ _ _ _)
   | (with_reducible exact LeO.refl _)
   | (with_reducible refine LeO.ite ?_ ?_)
theorem slices_Equal_int_int.mono : ∀ a0 a1 k, LeO (slices_Equal_int_int.f k a0 a1) (slices_Equal_int_int.f (k + 1) a0 a1) := by
 intro a0 a1 k
 have ih0 := slices_Equal_int_int.mono_l k
 unfold slices_Equal_int_int.f
 repeat' first
  | (with_reducible exact ih0 _ _ _ _)
  | (with_reducible exact LeO.refl _)
  | (with_reducible refine LeO.ite ?_ ?_)
set_option maxHeartbeats 8000000 in
set_option maxRecDepth 100000 in
theorem slices_Equal_int_int.calls (k : Nat) (A0 : Option Addr) (c0 : Nat) (l0 : List Int) (A1 : Option Addr) (c1 : Nat) (l1 : List Int) (r : Bool) (w : World) (hr0 : Kd.C (Kd.int .i64) w A0 l0.length l0) (hc0 : l0.length ≤ c0) (hr1 : Kd.C (Kd.int .i64) w A1 l1.length l1) (hc1 : l1.length ≤ c1) (h : slices_Equal_int_int.f k l0 l1 = some r) :
 Calls Try.prog 22 #[.slice A0 l0.length c0, .slice A1 l1.length c1] w fun e w' => e = .returned (.bool r) ∧ Drawn0 w w' := by
 have HR0 := Aside0.mk hr0
 have HC0 := Aside0.mk hc0
 clear hr0 hc0
 have HR1 := Aside0.mk hr1
 have HC1 := Aside0.mk hc1
 clear hr1 hc1
 have H : (if (l0.length : Int) = (l1.length : Int) then (slices_Equal_int_int.l0 k l0 l1 (l0.length : Int) 0) else (some false)) = some r := h
 clear h
 by_cases c3 : (l0.length : Int) = (l1.length : Int)
 ·rw [if_pos c3] at H
  have c3b0 : ((l0.length : Int) == (l1.length : Int)) = true := beq_iff_eq.mpr c3
  have c3b1 : ((l0.length : Int) != (l1.length : Int)) = false := bne_eq_false_iff_eq.mpr c3
  have c3b2 : (l0.length == l1.length) = true := by (simp at c3 ⊢; omega)
  clear c3
  have H' := Aside0.mk H
  clear H
  go_enter Try.func22, Try.ntmps22
  go_wp2
  repeat (go_quiet (fail); try go_wp2)
  go_loopg [13] k (fun kq v13 w' => ∃ (x13_1 : Int), v13 = .int .i64 x13_1 ∧ Aside0 (slices_Equal_int_int.l0 kq l0 l1 (l0.length : Int) x13_1 = some r) ∧ Aside0 (kq ≤ k) ∧ Drawn0 w w')
  case atStart => exact ⟨(0), (by rfl), H', ⟨Nat.le_refl _⟩, by repeat (exact Drawn0.refl _)⟩
  case round =>
   clear H'
   try clear c3b0
   try clear c3b1
   try clear c3b2
   obtain ⟨x13_1, rfl, HA, HK1, ⟨m1, rfl⟩⟩ := hrel
   cases gk with
   | zero => exact absurd HA.out (by simp [slices_Equal_int_int.l0])
   | succ k1 =>
    have H := HA.out
    clear HA
    simp only [slices_Equal_int_int.l0] at H
    by_cases c4 : x13_1 < (l0.length : Int)
    ·rw [if_pos c4] at H
     have c4b0 : decide (x13_1 < (l0.length : Int)) = true := decide_eq_true c4
     clear c4
     by_cases c5 : 0 ≤ x13_1
     ·rw [if_pos c5] at H
      have c5b0 : decide (0 ≤ x13_1) = true := decide_eq_true c5
      clear c5
      by_cases c6 : x13_1 < (l0.length : Int)
      ·rw [if_pos c6] at H
       have c6b0 : decide (x13_1 < (l0.length : Int)) = true := decide_eq_true c6
       clear c6
       by_cases c7 : x13_1 < (l1.length : Int)
       ·rw [if_pos c7] at H
        have c7b0 : decide (x13_1 < (l1.length : Int)) = true := decide_eq_true c7
        clear c7
        by_cases c8 : (rd l0 x13_1) = (rd l1 x13_1)
        ·rw [if_pos c8] at H
         have c8b0 : ((rd l0 x13_1) == (rd l1 x13_1)) = true := beq_iff_eq.mpr c8
         have c8b1 : ((rd l0 x13_1) != (rd l1 x13_1)) = false := bne_eq_false_iff_eq.mpr c8
         clear c8
         have H' := Aside0.mk H
         clear H
         have p348 : 0 ≤ (x13_1 : Int) := of_decide_eq_true (by (with_reducible assumption))
         have q348 : x13_1 < (l0.length : Int) := of_decide_eq_true (by (with_reducible assumption))
         obtain ⟨ad348, e348, hx348_0⟩ := Kd.at_int HR0.out x13_1 p348 q348
         cases e348
         replace p348 := eq_true p348
         replace q348 := eq_true q348
         have p349 : 0 ≤ (x13_1 : Int) := of_decide_eq_true (by (with_reducible assumption))
         have q349 : x13_1 < (l1.length : Int) := of_decide_eq_true (by (with_reducible assumption))
         obtain ⟨ad349, e349, hx349_0⟩ := Kd.at_int HR1.out x13_1 p349 q349
         cases e349
         replace p349 := eq_true p349
         replace q349 := eq_true q349
         go_wp2
         repeat (go_quiet (fail); try go_wp2)
         go_roundg k1
         case measure => have := HK1.out; omega
         case rel => exact ⟨(wrap64 (x13_1 + 1)), (by rfl), H', ⟨by have := HK1.out; omega⟩, by repeat (first | exact Drawn0.refl _ | apply Drawn0.step)⟩
        ·rw [if_neg c8] at H
         have c8b0 : ((rd l0 x13_1) == (rd l1 x13_1)) = false := beq_eq_false_iff_ne.mpr c8
         have c8b1 : ((rd l0 x13_1) != (rd l1 x13_1)) = true := bne_iff_ne.mpr c8
         obtain rfl := Option.some.inj H
         have p348 : 0 ≤ (x13_1 : Int) := of_decide_eq_true (by (with_reducible assumption))
         have q348 : x13_1 < (l0.length : Int) := of_decide_eq_true (by (with_reducible assumption))
         obtain ⟨ad348, e348, hx348_0⟩ := Kd.at_int HR0.out x13_1 p348 q348
         cases e348
         replace p348 := eq_true p348
         replace q348 := eq_true q348
         have p349 : 0 ≤ (x13_1 : Int) := of_decide_eq_true (by (with_reducible assumption))
         have q349 : x13_1 < (l1.length : Int) := of_decide_eq_true (by (with_reducible assumption))
         obtain ⟨ad349, e349, hx349_0⟩ := Kd.at_int HR1.out x13_1 p349 q349
         cases e349
         replace p349 := eq_true p349
         replace q349 := eq_true q349
         go_wp2
         repeat (go_quiet (fail); try go_wp2)
         go_ret
         exact ⟨by rfl, by repeat (first | exact Drawn0.refl _ | apply Drawn0.step)⟩
       ·rw [if_neg c7] at H
        exact absurd H (by simp)
      ·rw [if_neg c6] at H
       exact absurd H (by simp)
     ·rw [if_neg c5] at H
      exact absurd H (by simp)
    ·rw [if_neg c4] at H
     have c4b0 : decide (x13_1 < (l0.length : Int)) = false := decide_eq_false c4
     clear c4
     obtain rfl := Option.some.inj H
     go_wp2
     repeat (go_quiet (fail); try go_wp2)
     go_ret
     exact ⟨by rfl, by repeat (first | exact Drawn0.refl _ | apply Drawn0.step)⟩
 ·rw [if_neg c3] at H
  have c3b0 : ((l0.length : Int) == (l1.length : Int)) = false := beq_eq_false_iff_ne.mpr c3
  have c3b1 : ((l0.length : Int) != (l1.length : Int)) = true := bne_iff_ne.mpr c3
  have c3b2 : (l0.length == l1.length) = false := by (simp at c3 ⊢; omega)
  obtain rfl := Option.some.inj H
  go_enter Try.func22, Try.ntmps22
  go_wp2
  repeat (go_quiet (fail); try go_wp2)
  go_ret
  exact ⟨by rfl, by repeat (exact Drawn0.refl _)⟩

/-! ### peristyleref2_checkInts: function 62 -/
def peristyleref2_checkInts.l0 : Nat → List Int → Int → Int → Option (Int)
 | 0, _, _, _ => none
 | k + 1, x8, x9, x10 => if x10 < x9 then (if 0 ≤ x10 then (if x10 < (x8.length : Int) then (if (rd x8 x10) < (-1000000000000000) then (some 1) else (if (rd x8 x10) > 1000000000000000 then (some 1) else (peristyleref2_checkInts.l0 k x8 x9 (wrap64 (x10 + 1))))) else (none)) else (none)) else (some 0)
def peristyleref2_checkInts.f (k : Nat) (l0 : List Int) : Option (Int) := if (l0.length : Int) > 2000 then (some 2) else (peristyleref2_checkInts.l0 k l0 (l0.length : Int) 0)
theorem peristyleref2_checkInts.mono_l : ∀ k, (∀ y0 y1 y2, LeO (peristyleref2_checkInts.l0 k y0 y1 y2) (peristyleref2_checkInts.l0 (k + 1) y0 y1 y2))
 | 0 => fun _ _ _ r h => by simp [peristyleref2_checkInts.l0] at h
 | k + 1 => by
  have ih0 := peristyleref2_checkInts.mono_l k
  ·intro y0 y1 y2
   unfold peristyleref2_checkInts.l0
   repeat' first
   | (with_reducible exact ih0 _ _ _)
   | (with_reducible exact LeO.refl _)
   | (with_reducible refine LeO.ite ?_ ?_)
theorem peristyleref2_checkInts.mono : ∀ a0 k, LeO (peristyleref2_checkInts.f k a0) (peristyleref2_checkInts.f (k + 1) a0) := by
 intro a0 k
 have ih0 := peristyleref2_checkInts.mono_l k
 unfold peristyleref2_checkInts.f
 repeat' first
  | (with_reducible exact ih0 _ _ _)
  | (with_reducible exact LeO.refl _)
  | (with_reducible refine LeO.ite ?_ ?_)
set_option maxHeartbeats 8000000 in
set_option maxRecDepth 100000 in
theorem peristyleref2_checkInts.calls (k : Nat) (A0 : Option Addr) (c0 : Nat) (l0 : List Int) (r : Int) (w : World) (hr0 : Kd.C (Kd.int .i64) w A0 l0.length l0) (hc0 : l0.length ≤ c0) (h : peristyleref2_checkInts.f k l0 = some r) :
 Calls Try.prog 62 #[.slice A0 l0.length c0] w fun e w' => e = .returned (.int .i64 r) ∧ Drawn0 w w' := by
 have HR0 := Aside0.mk hr0
 have HC0 := Aside0.mk hc0
 clear hr0 hc0
 have H : (if (l0.length : Int) > 2000 then (some 2) else (peristyleref2_checkInts.l0 k l0 (l0.length : Int) 0)) = some r := h
 clear h
 by_cases c2 : (l0.length : Int) > 2000
 ·rw [if_pos c2] at H
  have c2b0 : decide (2000 < (l0.length : Int)) = true := decide_eq_true c2
  have c2b1 : decide (2000 < l0.length) = true := decide_eq_true (by omega)
  clear c2
  obtain rfl := Option.some.inj H
  go_enter Try.func62, Try.ntmps62
  go_wp2
  go_ret
  exact ⟨by rfl, by repeat (exact Drawn0.refl _)⟩
 ·rw [if_neg c2] at H
  have c2b0 : decide (2000 < (l0.length : Int)) = false := decide_eq_false c2
  have c2b1 : decide (2000 < l0.length) = false := decide_eq_false (by omega)
  clear c2
  have H' := Aside0.mk H
  clear H
  go_enter Try.func62, Try.ntmps62
  go_wp2
  go_loopg [10] k (fun kq v10 w' => ∃ (x10_1 : Int), v10 = .int .i64 x10_1 ∧ Aside0 (peristyleref2_checkInts.l0 kq l0 (l0.length : Int) x10_1 = some r) ∧ Aside0 (kq ≤ k) ∧ Drawn0 w w')
  case atStart => exact ⟨(0), (by rfl), H', ⟨Nat.le_refl _⟩, by repeat (exact Drawn0.refl _)⟩
  case round =>
   clear H'
   try clear c2b0
   try clear c2b1
   obtain ⟨x10_1, rfl, HA, HK1, ⟨m1, rfl⟩⟩ := hrel
   cases gk with
   | zero => exact absurd HA.out (by simp [peristyleref2_checkInts.l0])
   | succ k1 =>
    have H := HA.out
    clear HA
    simp only [peristyleref2_checkInts.l0] at H
    by_cases c3 : x10_1 < (l0.length : Int)
    ·rw [if_pos c3] at H
     have c3b0 : decide (x10_1 < (l0.length : Int)) = true := decide_eq_true c3
     clear c3
     by_cases c4 : 0 ≤ x10_1
     ·rw [if_pos c4] at H
      have c4b0 : decide (0 ≤ x10_1) = true := decide_eq_true c4
      clear c4
      by_cases c5 : x10_1 < (l0.length : Int)
      ·rw [if_pos c5] at H
       have c5b0 : decide (x10_1 < (l0.length : Int)) = true := decide_eq_true c5
       clear c5
       by_cases c6 : (rd l0 x10_1) < (-1000000000000000)
       ·rw [if_pos c6] at H
        have c6b0 : decide ((rd l0 x10_1) < (-1000000000000000)) = true := decide_eq_true c6
        clear c6
        obtain rfl := Option.some.inj H
        have p350 : 0 ≤ (x10_1 : Int) := of_decide_eq_true (by (with_reducible assumption))
        have q350 : x10_1 < (l0.length : Int) := of_decide_eq_true (by (with_reducible assumption))
        obtain ⟨ad350, e350, hx350_0⟩ := Kd.at_int HR0.out x10_1 p350 q350
        cases e350
        replace p350 := eq_true p350
        replace q350 := eq_true q350
        go_wp2
        go_ret
        exact ⟨by rfl, by repeat (first | exact Drawn0.refl _ | apply Drawn0.step)⟩
       ·rw [if_neg c6] at H
        have c6b0 : decide ((rd l0 x10_1) < (-1000000000000000)) = false := decide_eq_false c6
        clear c6
        by_cases c7 : (rd l0 x10_1) > 1000000000000000
        ·rw [if_pos c7] at H
         have c7b0 : decide (1000000000000000 < (rd l0 x10_1)) = true := decide_eq_true c7
         clear c7
         obtain rfl := Option.some.inj H
         have p350 : 0 ≤ (x10_1 : Int) := of_decide_eq_true (by (with_reducible assumption))
         have q350 : x10_1 < (l0.length : Int) := of_decide_eq_true (by (with_reducible assumption))
         obtain ⟨ad350, e350, hx350_0⟩ := Kd.at_int HR0.out x10_1 p350 q350
         cases e350
         replace p350 := eq_true p350
         replace q350 := eq_true q350
         go_wp2
         go_ret
         exact ⟨by rfl, by repeat (first | exact Drawn0.refl _ | apply Drawn0.step)⟩
        ·rw [if_neg c7] at H
         have c7b0 : decide (1000000000000000 < (rd l0 x10_1)) = false := decide_eq_false c7
         clear c7
         have H' := Aside0.mk H
         clear H
         have p350 : 0 ≤ (x10_1 : Int) := of_decide_eq_true (by (with_reducible assumption))
         have q350 : x10_1 < (l0.length : Int) := of_decide_eq_true (by (with_reducible assumption))
         obtain ⟨ad350, e350, hx350_0⟩ := Kd.at_int HR0.out x10_1 p350 q350
         cases e350
         replace p350 := eq_true p350
         replace q350 := eq_true q350
         go_wp2
         go_roundg k1
         case measure => have := HK1.out; omega
         case rel => exact ⟨(wrap64 (x10_1 + 1)), (by rfl), H', ⟨by have := HK1.out; omega⟩, by repeat (first | exact Drawn0.refl _ | apply Drawn0.step)⟩
      ·rw [if_neg c5] at H
       exact absurd H (by simp)
     ·rw [if_neg c4] at H
      exact absurd H (by simp)
    ·rw [if_neg c3] at H
     have c3b0 : decide (x10_1 < (l0.length : Int)) = false := decide_eq_false c3
     clear c3
     obtain rfl := Option.some.inj H
     go_wp2
     go_ret
     exact ⟨by rfl, by repeat (first | exact Drawn0.refl _ | apply Drawn0.step)⟩

/-! ### peristyleref2_count: function 55 -/
def peristyleref2_count.l0 : Nat → Int → List Int → Option (List Int)
 | 0, _, _ => none
 | k + 1, x0, x3 => if x0 > 127 then (if x3.length < 140737488355328 then (peristyleref2_count.l0 k (x0 / 128) (x3 ++ [(Go.bits .or .i64 (Go.bits .and .i64 x0 127) 128) % 256])) else (none)) else (if x3.length < 140737488355328 then (some (x3 ++ [(x0) % 256])) else (none))
def peristyleref2_count.f (k : Nat) (a0 : Int) : Option (List Int) := peristyleref2_count.l0 k a0 ([] : List Int)
theorem peristyleref2_count.mono_l : ∀ k, (∀ y0 y1, LeO (peristyleref2_count.l0 k y0 y1) (peristyleref2_count.l0 (k + 1) y0 y1))
 | 0 => fun _ _ r h => by simp [peristyleref2_count.l0] at h
 | k + 1 => by
  have ih0 := peristyleref2_count.mono_l k
  ·intro y0 y1
   unfold peristyleref2_count.l0
   repeat' first
   | (with_reducible exact ih0 _ _)
   | (with_reducible exact LeO.refl _)
   | (with_reducible refine LeO.ite ?_ ?_)
theorem peristyleref2_count.mono : ∀ a0 k, LeO (peristyleref2_count.f k a0) (peristyleref2_count.f (k + 1) a0) := by
 intro a0 k
 have ih0 := peristyleref2_count.mono_l k
 unfold peristyleref2_count.f
 repeat' first
  | (with_reducible exact ih0 _ _)
set_option maxHeartbeats 8000000 in
set_option maxRecDepth 100000 in
theorem peristyleref2_count.calls (k : Nat) (a0 : Int) (r : List Int) (w : World) (h : peristyleref2_count.f k a0 = some r) :
 Calls Try.prog 55 #[.int .i64 a0] w fun e w' => ∃ v0_ : Value, e = .returned (v0_) ∧ Kd.R (Kd.int .u8) 5 w' w.heap.size (fun _ => True) v0_ r ∧ Below w.heap.size w w' := by
 have HB := Aside0.mk (Below.refl w.heap.size w)
 have H : (peristyleref2_count.l0 k a0 ([] : List Int)) = some r := h
 clear h
 have H' := Aside0.mk H
 clear H
 go_enter Try.func55, Try.ntmps55
 go_wp2
 go_loopg [0, 3] k (fun kq v0 v3 w' => ∃ (x0_1 : Int) (x3_1 : List Int), v0 = .int .i64 x0_1 ∧ Aside0 (peristyleref2_count.l0 kq x0_1 x3_1 = some r) ∧ Aside0 (kq ≤ k) ∧ Aside0 (Kd.R (Kd.int .u8) 5 w' w.heap.size (fun _ => True) v3 x3_1) ∧ Aside0 (Below w.heap.size w w'))
 case atStart => exact ⟨(a0), (([] : List Int)), (by rfl), H', ⟨Nat.le_refl _⟩, ⟨by exact Kd.R_nil _ _ _ _ _⟩, ⟨by exact HB.out⟩⟩
 case round =>
  clear H'
  obtain ⟨x0_1, x3_1, rfl, HA, HK1, HO_3, HB⟩ := hrel
  cases gk with
  | zero => exact absurd HA.out (by simp [peristyleref2_count.l0])
  | succ k1 =>
   have H := HA.out
   clear HA
   simp only [peristyleref2_count.l0] at H
   by_cases c2 : x0_1 > 127
   ·rw [if_pos c2] at H
    have c2b0 : decide (127 < x0_1) = true := decide_eq_true c2
    clear c2
    by_cases c3 : x3_1.length < 140737488355328
    ·rw [if_pos c3] at H
     have LMc3 := Aside0.mk c3
     clear c3
     obtain ⟨y351, hy351⟩ : ∃ y_ : List Int, y_ = (x3_1 ++ [(Go.bits .or .i64 (Go.bits .and .i64 x0_1 127) 128) % 256]) := ⟨_, rfl⟩
     replace H : (peristyleref2_count.l0 k1 (x0_1 / 128) y351) = some r := by (rw [hy351]; with_reducible exact H)
     have Ny351 := Aside0.mk hy351
     clear hy351
     have H' := Aside0.mk H
     clear H
     go_wp2_with (first | ((with_reducible refine gate_builtin (b := .append) (xs := #[.tmp 6, .tmp 11]) rfl ?_); at_builtin; refine Kd.R_append (Kd.int .u8) (w0 := w) w.heap.size rfl (.tmp 6) (.tmp 11) 27 5 (.int .u8 0) 1 rfl Try.underlying27 info5 rfl (by decide) (by omega) u3 x3_1 ((Go.bits .or .i64 (Go.bits .and .i64 x0_1 127) 128) % 256) [.int .u8 ((Go.bits .or .i64 (Go.bits .and .i64 x0_1 127) 128) % 256)] (fun _ => True) (fun _ => False) rfl rfl ?aP (fun _ hk => hk.elim) ?aF ?aO ?aB ?aS ?aL ?_; (case aP => exact rfl); (case aB => exact (by exact HB.out)); (case aF => exact (fun _ _ => trivial)); (case aO => exact (by exact HO_3.out)); (case aS => exact (below_size (by exact HB.out))); (case aL => have := LMc3.out; omega); intro v352 w4 ho hb hg hat; rw [← Ny351.out] at ho; have n0_ := Aside0.mk (hb); have n1_ := Aside0.mk (ho); clear HB; clear HO_3; have HB := n0_; have HO353 := n1_; clear n0_ n1_; clear ho hb hg hat))
     go_roundg k1
     case measure => have := HK1.out; omega
     case rel => exact ⟨(x0_1 / 128), (y351), (by rfl), H', ⟨by have := HK1.out; omega⟩, ⟨by exact HO353.out⟩, ⟨by exact HB.out⟩⟩
    ·rw [if_neg c3] at H
     exact absurd H (by simp)
   ·rw [if_neg c2] at H
    have c2b0 : decide (127 < x0_1) = false := decide_eq_false c2
    clear c2
    by_cases c5 : x3_1.length < 140737488355328
    ·rw [if_pos c5] at H
     have LMc5 := Aside0.mk c5
     clear c5
     obtain ⟨y354, hy354⟩ : ∃ y_ : List Int, y_ = (x3_1 ++ [(x0_1) % 256]) := ⟨_, rfl⟩
     replace H : (some y354) = some r := by (rw [hy354]; with_reducible exact H)
     have Ny354 := Aside0.mk hy354
     clear hy354
     obtain rfl := Option.some.inj H
     go_wp2_with (first | ((with_reducible refine gate_builtin (b := .append) (xs := #[.tmp 15, .tmp 18]) rfl ?_); at_builtin; refine Kd.R_append (Kd.int .u8) (w0 := w) w.heap.size rfl (.tmp 15) (.tmp 18) 27 5 (.int .u8 0) 1 rfl Try.underlying27 info5 rfl (by decide) (by omega) u3 x3_1 ((x0_1) % 256) [.int .u8 ((x0_1) % 256)] (fun _ => True) (fun _ => False) rfl rfl ?aP (fun _ hk => hk.elim) ?aF ?aO ?aB ?aS ?aL ?_; (case aP => exact rfl); (case aB => exact (by exact HB.out)); (case aF => exact (fun _ _ => trivial)); (case aO => exact (by exact HO_3.out)); (case aS => exact (below_size (by exact HB.out))); (case aL => have := LMc5.out; omega); intro v355 w6 ho hb hg hat; rw [← Ny354.out] at ho; have n0_ := Aside0.mk (hb); have n1_ := Aside0.mk (ho); clear HB; clear HO_3; have HB := n0_; have HO356 := n1_; clear n0_ n1_; clear ho hb hg hat))
     go_ret
     exact ⟨_, by rfl, by exact HO356.out, by exact HB.out⟩
    ·rw [if_neg c5] at H
     exact absurd H (by simp)

/-! ### peristyleref2_number: function 81 -/
def peristyleref2_number.f (k : Nat) (a0 : Int) : Option (List Int) := if a0 < 0 then ((peristyleref2_count.f k (wrap64 ((wrap64 ((-2) * a0)) - 1))).bind fun t357 => (some t357)) else ((peristyleref2_count.f k (wrap64 (2 * a0))).bind fun t360 => (some t360))
theorem peristyleref2_number.mono : ∀ a0 k, LeO (peristyleref2_number.f k a0) (peristyleref2_number.f (k + 1) a0) := by
 intro a0 k
 unfold peristyleref2_number.f
 repeat' first
  | (with_reducible exact peristyleref2_count.mono _ _)
  | (with_reducible exact LeO.refl _)
  | (with_reducible refine LeO.ite ?_ ?_)
  | (with_reducible refine LeO.bind ?_ (fun _ => ?_))
set_option maxHeartbeats 8000000 in
set_option maxRecDepth 100000 in
theorem peristyleref2_number.calls (k : Nat) (a0 : Int) (r : List Int) (w : World) (h : peristyleref2_number.f k a0 = some r) :
 Calls Try.prog 81 #[.int .i64 a0] w fun e w' => ∃ v0_ : Value, e = .returned (v0_) ∧ Kd.R (Kd.int .u8) 5 w' w.heap.size (fun _ => True) v0_ r ∧ Below w.heap.size w w' := by
 have HB := Aside0.mk (Below.refl w.heap.size w)
 have H : (if a0 < 0 then ((peristyleref2_count.f k (wrap64 ((wrap64 ((-2) * a0)) - 1))).bind fun t357 => (some t357)) else ((peristyleref2_count.f k (wrap64 (2 * a0))).bind fun t360 => (some t360))) = some r := h
 clear h
 by_cases c2 : a0 < 0
 ·rw [if_pos c2] at H
  have c2b0 : decide (a0 < 0) = true := decide_eq_true c2
  clear c2
  replace H := Option.bind_eq_some_iff.mp H
  obtain ⟨t357, A30, H⟩ := H
  replace H : (some t357) = some r := H
  have A3 := Aside0.mk A30
  clear A30
  obtain rfl := Option.some.inj H
  go_enter Try.func81, Try.ntmps81
  go_wp2_with (first | ((with_reducible refine gate_callee (f := 55) rfl ?_); refine goesL_ (some 8) rfl rfl Try.func55 (by kernel_rfl) rfl #[.int .i64 (wrap64 ((wrap64 ((-2) * a0)) - 1))] rfl (by (try simp only [List.map_toArray, List.map_cons, List.map_nil]); rfl) ?_; (with_reducible refine (peristyleref2_count.calls k (wrap64 ((wrap64 ((-2) * a0)) - 1)) t357 _ A3.out).mono ?_); rintro e w4 ⟨v358, rfl, ho0, hb⟩; refine ⟨_, rfl, ?_⟩; have n0_ := Aside0.mk (Kd.R_lower ho0 (below_size (by exact HB.out))); have n1_ := Aside0.mk (below_step (by exact HB.out) hb); clear HB; have HO359 := n0_; have HB := n1_; clear n0_ n1_; (try clear hb); (try clear ho0)))
  go_ret
  exact ⟨_, by rfl, by exact HO359.out, by exact HB.out⟩
 ·rw [if_neg c2] at H
  have c2b0 : decide (a0 < 0) = false := decide_eq_false c2
  clear c2
  replace H := Option.bind_eq_some_iff.mp H
  obtain ⟨t360, A50, H⟩ := H
  replace H : (some t360) = some r := H
  have A5 := Aside0.mk A50
  clear A50
  obtain rfl := Option.some.inj H
  go_enter Try.func81, Try.ntmps81
  go_wp2_with (first | ((with_reducible refine gate_callee (f := 55) rfl ?_); refine goesL_ (some 11) rfl rfl Try.func55 (by kernel_rfl) rfl #[.int .i64 (wrap64 (2 * a0))] rfl (by (try simp only [List.map_toArray, List.map_cons, List.map_nil]); rfl) ?_; (with_reducible refine (peristyleref2_count.calls k (wrap64 (2 * a0)) t360 _ A5.out).mono ?_); rintro e w6 ⟨v361, rfl, ho0, hb⟩; refine ⟨_, rfl, ?_⟩; have n0_ := Aside0.mk (Kd.R_lower ho0 (below_size (by exact HB.out))); have n1_ := Aside0.mk (below_step (by exact HB.out) hb); clear HB; have HO362 := n0_; have HB := n1_; clear n0_ n1_; (try clear hb); (try clear ho0)))
  go_ret
  exact ⟨_, by rfl, by exact HO362.out, by exact HB.out⟩

end Go.Proofs.Ythhdihnaicggiaa.I
