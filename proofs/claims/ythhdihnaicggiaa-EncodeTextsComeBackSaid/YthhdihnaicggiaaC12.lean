/- Printed by a program of this session (wip/tools/printh.py over the kit's printer): Lean functions that answer as the Go functions do, with the proofs of it. No conditions beyond those in each theorem. -/
import Derived.Test.YthhdihnaicggiaaC0
import Derived.Test.YthhdihnaicggiaaC4
import Derived.Test.YthhdihnaicggiaaC7
import Derived.Test.YthhdihnaicggiaaC10
import Derived.Test.YthhdihnaicggiaaC11
namespace Go.Proofs.Ythhdihnaicggiaa.C
open Go.RowKit Go.Proofs.YthhdihnaicggiaaW.PrintWords Go.Proofs.YthhdihnaicggiaaW.PrintLast Go.Proofs.YthhdihnaicggiaaW.PrintMore
attribute [local go_sem] max2_int min2_int max_two min_two max_three min_three max_four min_four gtr_str leq_str geq_str   -- for this text's walks alone
set_option linter.unusedVariables false
set_option linter.unusedSimpArgs false

/-! ### peristylelaw2_EncodeTextsComeBack: function 9 -/
mutual
def peristylelaw2_EncodeTextsComeBack.j2 : Nat → List Int → Option (Bool)
  | 0, _ => none
  | k + 1, x2 => (encode_DecodeTexts.f k x2).bind fun bt404 => (if bt404.2 = 0 then (if 0 < (x2.length : Int) then ((encode_EncodeTexts.f k (wrap64 (rd x2 0)) bt404.1).bind fun bt409 => (if bt409.2 = 0 then ((slices_Equal_byte_byte.f k bt409.1 x2).bind fun t413 => (if t413 = true then ((peristylelaw2_awake.f k).bind fun t414 => (some t414)) else (some false))) else (some false))) else (none)) else (if (bt404.1.length : Int) = 0 then ((peristylelaw2_awake.f k).bind fun t415 => (some t415)) else (some false)))
def peristylelaw2_EncodeTextsComeBack.j0 : Nat → List ByteArray → List Int → ByteArray → ByteArray → List Int → Bool → Option (Bool)
  | 0, _, _, _, _, _, _ => none
  | k + 1, x1, x2, x3, x4, x11, x42 => if x42 = true then (some false) else ((encode_WhereText.f k x11 x3 x4).bind fun bt396 => (if ((bt396.2 == 0) != (!(Op.bytesLess x4.toList x3.toList))) = true then (some false) else (peristylelaw2_EncodeTextsComeBack.l0 k x2 x3 x4 x11 bt396.1 x1 (x1.length : Int) 0)))
def peristylelaw2_EncodeTextsComeBack.l0 : Nat → List Int → ByteArray → ByteArray → List Int → List Int → List ByteArray → Int → Int → Option (Bool)
  | 0, _, _, _, _, _, _, _, _ => none
  | k + 1, x2, x3, x4, x11, x15, x56, x57, x58 => if x58 < x57 then (if 0 ≤ x58 then (if x58 < (x56.length : Int) then ((encode_TextAt.f k x11 x58).bind fun bt401 => (if bt401.2 = 0 then (if bt401.1.toList = (rdOf ByteArray.empty x56 x58).toList then (if ((Op.bytesLess x4.toList x3.toList) = true) then (peristylelaw2_EncodeTextsComeBack.l0 k x2 x3 x4 x11 x15 x56 x57 (wrap64 (x58 + 1))) else ((slices_Contains_int_int.f k x15 x58).bind fun t403 => (if ((Op.bytesLess ((rdOf ByteArray.empty x56 x58).toList) x3.toList) = true) then (if (t403 != false) = true then (some false) else (peristylelaw2_EncodeTextsComeBack.l0 k x2 x3 x4 x11 x15 x56 x57 (wrap64 (x58 + 1)))) else (if (t403 != (!(Op.bytesLess x4.toList ((rdOf ByteArray.empty x56 x58).toList)))) = true then (some false) else (peristylelaw2_EncodeTextsComeBack.l0 k x2 x3 x4 x11 x15 x56 x57 (wrap64 (x58 + 1))))))) else (some false)) else (some false))) else (none)) else (none)) else (peristylelaw2_EncodeTextsComeBack.j2 k x2)
end
def peristylelaw2_EncodeTextsComeBack.f (k : Nat) (a0 : Int) (l1 : List ByteArray) (l2 : List Int) (a3 : ByteArray) (a4 : ByteArray) : Option (Bool) := (encode_EncodeTexts.f k a0 l1).bind fun bt387 => (if bt387.2 = 0 then ((encode_DecodeTexts.f k bt387.1).bind fun bt391 => (if bt391.2 = 0 then ((slices_Equal_string_string.f k bt391.1 l1).bind fun t395 => (peristylelaw2_EncodeTextsComeBack.j0 k l1 l2 a3 a4 bt387.1 (!t395))) else (peristylelaw2_EncodeTextsComeBack.j0 k l1 l2 a3 a4 bt387.1 true))) else (peristylelaw2_EncodeTextsComeBack.j2 k l2))
theorem peristylelaw2_EncodeTextsComeBack.mono_l : ∀ k, (∀ y0, LeO (peristylelaw2_EncodeTextsComeBack.j2 k y0) (peristylelaw2_EncodeTextsComeBack.j2 (k + 1) y0)) ∧ (∀ y0 y1 y2 y3 y4 y5, LeO (peristylelaw2_EncodeTextsComeBack.j0 k y0 y1 y2 y3 y4 y5) (peristylelaw2_EncodeTextsComeBack.j0 (k + 1) y0 y1 y2 y3 y4 y5)) ∧ (∀ y0 y1 y2 y3 y4 y5 y6 y7, LeO (peristylelaw2_EncodeTextsComeBack.l0 k y0 y1 y2 y3 y4 y5 y6 y7) (peristylelaw2_EncodeTextsComeBack.l0 (k + 1) y0 y1 y2 y3 y4 y5 y6 y7))
  | 0 => ⟨fun _ r h => by simp [peristylelaw2_EncodeTextsComeBack.j2] at h, fun _ _ _ _ _ _ r h => by simp [peristylelaw2_EncodeTextsComeBack.j0] at h, fun _ _ _ _ _ _ _ _ r h => by simp [peristylelaw2_EncodeTextsComeBack.l0] at h⟩
  | k + 1 => by
    obtain ⟨ih0, ih1, ih2⟩ := peristylelaw2_EncodeTextsComeBack.mono_l k
    refine ⟨?_, ?_, ?_⟩
    · intro y0
      unfold peristylelaw2_EncodeTextsComeBack.j2
      repeat' first
      | (with_reducible exact ih0 _)
      | (with_reducible exact ih1 _ _ _ _ _ _)
      | (with_reducible exact ih2 _ _ _ _ _ _ _ _)
      | (with_reducible exact encode_DecodeTexts.mono _ _)
      | (with_reducible exact encode_EncodeTexts.mono _ _ _)
      | (with_reducible exact encode_TextAt.mono _ _ _)
      | (with_reducible exact encode_WhereText.mono _ _ _ _)
      | (with_reducible exact peristylelaw2_awake.mono _)
      | (with_reducible exact slices_Contains_int_int.mono _ _ _)
      | (with_reducible exact slices_Equal_byte_byte.mono _ _ _)
      | (with_reducible exact slices_Equal_string_string.mono _ _ _)
      | (with_reducible exact LeO.refl _)
      | (with_reducible exact LeO.none _)
      | (with_reducible refine LeO.ite ?_ ?_)
      | (with_reducible refine LeO.bind ?_ (fun _ => ?_))
      | exact ih0 _
      | exact ih1 _ _ _ _ _ _
      | exact ih2 _ _ _ _ _ _ _ _
      | exact encode_DecodeTexts.mono _ _
      | exact encode_EncodeTexts.mono _ _ _
      | exact encode_TextAt.mono _ _ _
      | exact encode_WhereText.mono _ _ _ _
      | exact peristylelaw2_awake.mono _
      | exact slices_Contains_int_int.mono _ _ _
      | exact slices_Equal_byte_byte.mono _ _ _
      | exact slices_Equal_string_string.mono _ _ _
      | exact LeO.none _
      | refine LeO.ite ?_ ?_
      | refine LeO.bind ?_ (fun _ => ?_)
    · intro y0 y1 y2 y3 y4 y5
      unfold peristylelaw2_EncodeTextsComeBack.j0
      repeat' first
      | (with_reducible exact ih0 _)
      | (with_reducible exact ih1 _ _ _ _ _ _)
      | (with_reducible exact ih2 _ _ _ _ _ _ _ _)
      | (with_reducible exact encode_DecodeTexts.mono _ _)
      | (with_reducible exact encode_EncodeTexts.mono _ _ _)
      | (with_reducible exact encode_TextAt.mono _ _ _)
      | (with_reducible exact encode_WhereText.mono _ _ _ _)
      | (with_reducible exact peristylelaw2_awake.mono _)
      | (with_reducible exact slices_Contains_int_int.mono _ _ _)
      | (with_reducible exact slices_Equal_byte_byte.mono _ _ _)
      | (with_reducible exact slices_Equal_string_string.mono _ _ _)
      | (with_reducible exact LeO.refl _)
      | (with_reducible exact LeO.none _)
      | (with_reducible refine LeO.ite ?_ ?_)
      | (with_reducible refine LeO.bind ?_ (fun _ => ?_))
      | exact ih0 _
      | exact ih1 _ _ _ _ _ _
      | exact ih2 _ _ _ _ _ _ _ _
      | exact encode_DecodeTexts.mono _ _
      | exact encode_EncodeTexts.mono _ _ _
      | exact encode_TextAt.mono _ _ _
      | exact encode_WhereText.mono _ _ _ _
      | exact peristylelaw2_awake.mono _
      | exact slices_Contains_int_int.mono _ _ _
      | exact slices_Equal_byte_byte.mono _ _ _
      | exact slices_Equal_string_string.mono _ _ _
      | exact LeO.none _
      | refine LeO.ite ?_ ?_
      | refine LeO.bind ?_ (fun _ => ?_)
    · intro y0 y1 y2 y3 y4 y5 y6 y7
      unfold peristylelaw2_EncodeTextsComeBack.l0
      repeat' first
      | (with_reducible exact ih0 _)
      | (with_reducible exact ih1 _ _ _ _ _ _)
      | (with_reducible exact ih2 _ _ _ _ _ _ _ _)
      | (with_reducible exact encode_DecodeTexts.mono _ _)
      | (with_reducible exact encode_EncodeTexts.mono _ _ _)
      | (with_reducible exact encode_TextAt.mono _ _ _)
      | (with_reducible exact encode_WhereText.mono _ _ _ _)
      | (with_reducible exact peristylelaw2_awake.mono _)
      | (with_reducible exact slices_Contains_int_int.mono _ _ _)
      | (with_reducible exact slices_Equal_byte_byte.mono _ _ _)
      | (with_reducible exact slices_Equal_string_string.mono _ _ _)
      | (with_reducible exact LeO.refl _)
      | (with_reducible exact LeO.none _)
      | (with_reducible refine LeO.ite ?_ ?_)
      | (with_reducible refine LeO.bind ?_ (fun _ => ?_))
      | exact ih0 _
      | exact ih1 _ _ _ _ _ _
      | exact ih2 _ _ _ _ _ _ _ _
      | exact encode_DecodeTexts.mono _ _
      | exact encode_EncodeTexts.mono _ _ _
      | exact encode_TextAt.mono _ _ _
      | exact encode_WhereText.mono _ _ _ _
      | exact peristylelaw2_awake.mono _
      | exact slices_Contains_int_int.mono _ _ _
      | exact slices_Equal_byte_byte.mono _ _ _
      | exact slices_Equal_string_string.mono _ _ _
      | exact LeO.none _
      | refine LeO.ite ?_ ?_
      | refine LeO.bind ?_ (fun _ => ?_)
theorem peristylelaw2_EncodeTextsComeBack.mono : ∀ a0 a1 a2 a3 a4 k, LeO (peristylelaw2_EncodeTextsComeBack.f k a0 a1 a2 a3 a4) (peristylelaw2_EncodeTextsComeBack.f (k + 1) a0 a1 a2 a3 a4) := by
  intro a0 a1 a2 a3 a4 k
  obtain ⟨ih0, ih1, ih2⟩ := peristylelaw2_EncodeTextsComeBack.mono_l k
  unfold peristylelaw2_EncodeTextsComeBack.f
  repeat' first
      | (with_reducible exact ih0 _)
      | (with_reducible exact ih1 _ _ _ _ _ _)
      | (with_reducible exact ih2 _ _ _ _ _ _ _ _)
      | (with_reducible exact encode_DecodeTexts.mono _ _)
      | (with_reducible exact encode_EncodeTexts.mono _ _ _)
      | (with_reducible exact encode_TextAt.mono _ _ _)
      | (with_reducible exact encode_WhereText.mono _ _ _ _)
      | (with_reducible exact peristylelaw2_awake.mono _)
      | (with_reducible exact slices_Contains_int_int.mono _ _ _)
      | (with_reducible exact slices_Equal_byte_byte.mono _ _ _)
      | (with_reducible exact slices_Equal_string_string.mono _ _ _)
      | (with_reducible exact LeO.refl _)
      | (with_reducible exact LeO.none _)
      | (with_reducible refine LeO.ite ?_ ?_)
      | (with_reducible refine LeO.bind ?_ (fun _ => ?_))
      | exact ih0 _
      | exact ih1 _ _ _ _ _ _
      | exact ih2 _ _ _ _ _ _ _ _
      | exact encode_DecodeTexts.mono _ _
      | exact encode_EncodeTexts.mono _ _ _
      | exact encode_TextAt.mono _ _ _
      | exact encode_WhereText.mono _ _ _ _
      | exact peristylelaw2_awake.mono _
      | exact slices_Contains_int_int.mono _ _ _
      | exact slices_Equal_byte_byte.mono _ _ _
      | exact slices_Equal_string_string.mono _ _ _
      | exact LeO.none _
      | refine LeO.ite ?_ ?_
      | refine LeO.bind ?_ (fun _ => ?_)
set_option maxHeartbeats 8000000 in
set_option maxRecDepth 100000 in
theorem peristylelaw2_EncodeTextsComeBack.calls (k : Nat) (a0 : Int) (A1 : Option Addr) (c1 : Nat) (l1 : List ByteArray) (A2 : Option Addr) (c2 : Nat) (l2 : List Int) (a3 : ByteArray) (a4 : ByteArray) (r : Bool) (w : World) (hr1 : Kd.C Kd.string w A1 l1.length l1) (hc1 : l1.length ≤ c1) (hr2 : Kd.C (Kd.int .u8) w A2 l2.length l2) (hc2 : l2.length ≤ c2) (h : peristylelaw2_EncodeTextsComeBack.f k a0 l1 l2 a3 a4 = some r) :
    Calls Try.prog 9 #[.int .i64 a0, .slice A1 l1.length c1, .slice A2 l2.length c2, .string a3, .string a4] w fun e w' => e = .returned (.bool r) ∧ Below w.heap.size w w' := by
  have HR1 := Aside0.mk hr1
  have HC1 := Aside0.mk hc1
  clear hr1 hc1
  have HR2 := Aside0.mk hr2
  have HC2 := Aside0.mk hc2
  clear hr2 hc2
  have HB := Aside0.mk (Below.refl w.heap.size w)
  have H : ((encode_EncodeTexts.f k a0 l1).bind fun bt387 => (if bt387.2 = 0 then ((encode_DecodeTexts.f k bt387.1).bind fun bt391 => (if bt391.2 = 0 then ((slices_Equal_string_string.f k bt391.1 l1).bind fun t395 => (peristylelaw2_EncodeTextsComeBack.j0 k l1 l2 a3 a4 bt387.1 (!t395))) else (peristylelaw2_EncodeTextsComeBack.j0 k l1 l2 a3 a4 bt387.1 true))) else (peristylelaw2_EncodeTextsComeBack.j2 k l2))) = some r := h
  clear h
  replace H := Option.bind_eq_some_iff.mp H
  obtain ⟨⟨t387, t388⟩, A60, H⟩ := H
  replace H : (if t388 = 0 then ((encode_DecodeTexts.f k t387).bind fun bt391 => (if bt391.2 = 0 then ((slices_Equal_string_string.f k bt391.1 l1).bind fun t395 => (peristylelaw2_EncodeTextsComeBack.j0 k l1 l2 a3 a4 t387 (!t395))) else (peristylelaw2_EncodeTextsComeBack.j0 k l1 l2 a3 a4 t387 true))) else (peristylelaw2_EncodeTextsComeBack.j2 k l2)) = some r := H
  have A6 := Aside0.mk A60
  clear A60
  have HC7 := Aside0.mk H
  clear H
  go_enter Try.func9, Try.ntmps9
  go_upto_if 29 with (first | ((with_reducible refine gate_callee (f := 35) rfl ?_); refine goesL_ (some 25) rfl rfl Try.func35 (by kernel_rfl) rfl #[.int .i64 a0, .slice A1 l1.length c1] rfl (by (try simp only [List.map_toArray, List.map_cons, List.map_nil]); first | done | rfl | (simp only [List.length_drop, List.length_take]; rfl)) ?_; (with_reducible refine (encode_EncodeTexts.calls k a0 _ _ l1 t387 t388 _ ?side1 ?side2 A6.out).mono ?_); (case side1 => repeat (first | exact HR1.out | (with_reducible refine Kd.C_alloc ?_ _) | (with_reducible refine Kd.C_drewN ?_ _) | (with_reducible refine Kd.C_drew ?_))); (case side2 => exact HC1.out); rintro e w8 ⟨v389, rfl, ho0, hb⟩; refine ⟨_, rfl, ?_⟩; have n0_ := Aside0.mk (Kd.R_lower ho0 (below_size (by repeat (first | (with_reducible first | exact HB.out | apply below_alloc | apply pw_below_drewN | apply below_drew1) | exact HB.out)))); have n1_ := Aside0.mk (below_step (by repeat (first | (with_reducible first | exact HB.out | apply below_alloc | apply pw_below_drewN | apply below_drew1) | exact HB.out)) hb); clear HB; have HO390 := n0_; have HB := n1_; clear n0_ n1_; (try clear hb); (try clear hb2); (try clear hk); (try clear hi); (try clear ho0)))
  (try simp only [Act.put, List.setIfInBounds_toArray, List.set_cons_zero, List.set_cons_succ])
  go_cut [] (fun wc => ∃ (kq : Nat), Aside0 (peristylelaw2_EncodeTextsComeBack.j2 kq l2 = some r) ∧ Aside0 (kq ≤ k) ∧ Aside0 (Below w.heap.size w wc))
  case first =>
    have H := HC7.out
    clear HC7
    by_cases c9 : t388 = 0
    · rw [if_pos c9] at H
      have c9b0 : (t388 == 0) = true := beq_iff_eq.mpr c9
      have c9b1 : (t388 != 0) = false := bne_eq_false_iff_eq.mpr c9
      clear c9
      (first | rw [c9b0] | (simp only [i64_w, i32_w]; rw [c9b0]) | skip)
      (try rw [c9b1])
      replace H := Option.bind_eq_some_iff.mp H
      obtain ⟨⟨t391, t392⟩, A100, H⟩ := H
      replace H : (if t392 = 0 then ((slices_Equal_string_string.f k t391 l1).bind fun t395 => (peristylelaw2_EncodeTextsComeBack.j0 k l1 l2 a3 a4 t387 (!t395))) else (peristylelaw2_EncodeTextsComeBack.j0 k l1 l2 a3 a4 t387 true)) = some r := H
      have A10 := Aside0.mk A100
      clear A100
      have HC11 := Aside0.mk H
      clear H
      obtain ⟨Ao12, co12, eo12⟩ := Kd.R_slice HO390.out
      subst eo12
      go_upto_region 4 with (first | ((with_reducible refine gate_callee (f := 36) rfl ?_); refine goesL_ (some 32) rfl rfl Try.func36 (by kernel_rfl) rfl #[.slice Ao12 t387.length co12] rfl (by (try simp only [List.map_toArray, List.map_cons, List.map_nil]); first | done | rfl | (simp only [List.length_drop, List.length_take]; rfl)) ?_; (with_reducible refine (encode_DecodeTexts.calls k _ _ t387 t391 t392 _ ?side1 ?side2 A10.out).mono ?_); (case side1 => repeat (first | exact (Kd.R_reads' HO390.out).2.2 | (with_reducible refine Kd.C_alloc ?_ _) | (with_reducible refine Kd.C_drewN ?_ _) | (with_reducible refine Kd.C_drew ?_))); (case side2 => exact (Kd.R_reads' HO390.out).2.1); rintro e w13 ⟨v393, rfl, ho0, hb⟩; refine ⟨_, rfl, ?_⟩; have n0_ := Aside0.mk (Kd.R_below (by (with_reducible repeat (first | apply Kd.R_alloc | apply Kd.R_drewN | apply Kd.R_drew)); exact HO390.out) hb); have n1_ := Aside0.mk (Kd.R_lower ho0 (below_size (by repeat (first | (with_reducible first | exact HB.out | apply below_alloc | apply pw_below_drewN | apply below_drew1) | exact HB.out)))); have n2_ := Aside0.mk (below_step (by repeat (first | (with_reducible first | exact HB.out | apply below_alloc | apply pw_below_drewN | apply below_drew1) | exact HB.out)) hb); clear HO390; clear HB; have HO390 := n0_; have HO394 := n1_; have HB := n2_; clear n0_ n1_ n2_; (try clear hb); (try clear hb2); (try clear hk); (try clear hi); (try clear ho0)))
      (try simp only [Act.put, List.setIfInBounds_toArray, List.set_cons_zero, List.set_cons_succ])
      go_cut [42] (fun v42 wc => ∃ (kq : Nat) (x42_10 : Bool), v42 = .bool x42_10 ∧ Aside0 (peristylelaw2_EncodeTextsComeBack.j0 kq l1 l2 a3 a4 t387 x42_10 = some r) ∧ Aside0 (kq ≤ k) ∧ Aside0 (Kd.R (Kd.int .u8) 5 wc w.heap.size (fun _ => True) (.slice Ao12 t387.length co12) t387) ∧ Aside0 (Below w.heap.size w wc))
      case first =>
        have H := HC11.out
        clear HC11
        by_cases c14 : t392 = 0
        · rw [if_pos c14] at H
          have c14b0 : (t392 == 0) = true := beq_iff_eq.mpr c14
          have c14b1 : (t392 != 0) = false := bne_eq_false_iff_eq.mpr c14
          clear c14
          (first | rw [c14b0] | (simp only [i64_w, i32_w]; rw [c14b0]) | skip)
          (try rw [c14b1])
          replace H := Option.bind_eq_some_iff.mp H
          obtain ⟨t395, A150, H⟩ := H
          replace H : (peristylelaw2_EncodeTextsComeBack.j0 k l1 l2 a3 a4 t387 (!t395)) = some r := H
          have A15 := Aside0.mk A150
          clear A150
          have H' := Aside0.mk H
          clear H
          obtain ⟨Ao16, co16, eo16⟩ := Kd.R_slice HO394.out
          subst eo16
          go_wp2_with (first | (go_at_call 37; (with_reducible refine (slices_Equal_string_string.calls k _ _ t391 _ _ l1 t395 _ ?side1 ?side2 ?side3 ?side4 A15.out).mono ?_); (case side1 => repeat (first | exact (Kd.R_reads' HO394.out).2.2 | (with_reducible refine Kd.C_alloc ?_ _) | (with_reducible refine Kd.C_drewN ?_ _) | (with_reducible refine Kd.C_drew ?_))); (case side2 => exact (Kd.R_reads' HO394.out).2.1); (case side3 => repeat (first | exact (Kd.C_below HR1.out HB.out) | (with_reducible refine Kd.C_alloc ?_ _) | (with_reducible refine Kd.C_drewN ?_ _) | (with_reducible refine Kd.C_drew ?_))); (case side4 => exact HC1.out); rintro e w' ⟨rfl, ⟨nd, rfl⟩⟩))
          go_meet
          case rel => exact ⟨_, (!t395), (by first | rfl | (simp; done) | (simp [*]; done) | (generalize ByteArray.toList _ = l_; cases l_ <;> rfl)), H', ⟨by first | omega | exact Nat.le_refl _⟩, ⟨by (with_reducible repeat (first | apply Kd.R_alloc | apply Kd.R_drewN | apply Kd.R_drew)); exact HO390.out⟩, ⟨by repeat (first | (with_reducible first | exact HB.out | apply below_alloc | apply pw_below_drewN | apply below_drew1) | exact HB.out)⟩⟩
        · rw [if_neg c14] at H
          have c14b0 : (t392 == 0) = false := beq_eq_false_iff_ne.mpr c14
          have c14b1 : (t392 != 0) = true := bne_iff_ne.mpr c14
          (first | rw [c14b0] | (simp only [i64_w, i32_w]; rw [c14b0]) | skip)
          (try rw [c14b1])
          have H' := Aside0.mk H
          clear H
          go_wp2
          go_meet
          case rel => exact ⟨_, (true), (by first | rfl | (simp; done) | (simp [*]; done) | (generalize ByteArray.toList _ = l_; cases l_ <;> rfl)), H', ⟨by first | omega | exact Nat.le_refl _⟩, ⟨by (with_reducible repeat (first | apply Kd.R_alloc | apply Kd.R_drewN | apply Kd.R_drew)); exact HO390.out⟩, ⟨by repeat (first | (with_reducible first | exact HB.out | apply below_alloc | apply pw_below_drewN | apply below_drew1) | exact HB.out)⟩⟩
      case rest =>
        clear HC11
        try clear c1
        try clear c2
        try clear p2
        try clear c3
        try clear c9
        try clear c9b0
        try clear c9b1
        try clear c14
        try clear c14b0
        try clear c14b1
        obtain ⟨kq, x42_10, rfl, HA, HJ10, HO_11, HB⟩ := hcut
        cases kq with
        | zero => exact absurd HA.out (by simp [peristylelaw2_EncodeTextsComeBack.j0])
        | succ kj10 =>
          have H := HA.out
          clear HA
          simp only [peristylelaw2_EncodeTextsComeBack.j0] at H
          by_cases c17 : x42_10 = true
          · subst c17
            have H1 : (some false) = some r := by rw [if_pos rfl] at H; exact H
            clear H
            have H := H1
            clear H1
            obtain rfl := Option.some.inj H
            go_wp2
            go_ret
            exact ⟨by first | rfl | (simp [errW_none, errW_some] <;> rfl) | (simp [*, errW_none, errW_some] <;> rfl), by repeat (first | (with_reducible first | exact HB.out | apply below_alloc | apply pw_below_drewN | apply below_drew1) | exact HB.out)⟩
          · replace c17 := Bool.eq_false_iff.mpr c17
            subst c17
            have H1 : ((encode_WhereText.f kj10 t387 a3 a4).bind fun bt396 => (if ((bt396.2 == 0) != (!(Op.bytesLess a4.toList a3.toList))) = true then (some false) else (peristylelaw2_EncodeTextsComeBack.l0 kj10 l2 a3 a4 t387 bt396.1 l1 (l1.length : Int) 0))) = some r := by rw [if_neg (show ¬ (false = true) by decide)] at H; exact H
            clear H
            have H := H1
            clear H1
            replace H := Option.bind_eq_some_iff.mp H
            obtain ⟨⟨t396, t397⟩, A180, H⟩ := H
            replace H : (if ((t397 == 0) != (!(Op.bytesLess a4.toList a3.toList))) = true then (some false) else (peristylelaw2_EncodeTextsComeBack.l0 kj10 l2 a3 a4 t387 t396 l1 (l1.length : Int) 0)) = some r := H
            have A18 := Aside0.mk A180
            clear A180
            by_cases c19 : ((t397 == 0) != (!(Op.bytesLess a4.toList a3.toList))) = true
            · rw [if_pos c19] at H
              have c19b0 : ((t397 == 0) != (!(Op.bytesLess a4.toList a3.toList))) = true := c19
              (try (have c19b1 : decide ((t397 == 0) = (!(Op.bytesLess a4.toList a3.toList))) = false := by simpa using c19))
              (try (have c19b2 : ((t397 == 0) == (!(Op.bytesLess a4.toList a3.toList))) = false := by simpa using c19))
              (try (have c19b5 : ((t397 == 0) == (!(Op.bytesLess a4.toList a3.toList))) = false := (by have h_ := c19; simp only [bne] at h_; revert h_; generalize ((t397 == 0) == (!(Op.bytesLess a4.toList a3.toList))) = b_; cases b_ <;> simp)))
              (try (have c19b3 : ¬ ((t397 == 0) = (!(Op.bytesLess a4.toList a3.toList))) := by simpa using c19))
              clear c19
              obtain rfl := Option.some.inj H
              go_wp2_with (first | ((with_reducible refine gate_callee (f := 38) rfl ?_); refine goesL_ (some 47) rfl rfl Try.func38 (by kernel_rfl) rfl #[.slice Ao12 t387.length co12, .string a3, .string a4] rfl (by (try simp only [List.map_toArray, List.map_cons, List.map_nil]); first | done | rfl | (simp only [List.length_drop, List.length_take]; rfl)) ?_; (with_reducible refine (encode_WhereText.calls kj10 _ _ t387 a3 a4 t396 t397 _ ?side1 ?side2 A18.out).mono ?_); (case side1 => repeat (first | exact (Kd.R_reads' HO_11.out).2.2 | (with_reducible refine Kd.C_alloc ?_ _) | (with_reducible refine Kd.C_drewN ?_ _) | (with_reducible refine Kd.C_drew ?_))); (case side2 => exact (Kd.R_reads' HO_11.out).2.1); rintro e w20 ⟨v398, rfl, ho0, hb⟩; refine ⟨_, rfl, ?_⟩; have n0_ := Aside0.mk (Kd.R_below (by (with_reducible repeat (first | apply Kd.R_alloc | apply Kd.R_drewN | apply Kd.R_drew)); exact HO_11.out) hb); have n1_ := Aside0.mk (Kd.R_lower ho0 (below_size (by repeat (first | (with_reducible first | exact HB.out | apply below_alloc | apply pw_below_drewN | apply below_drew1) | exact HB.out)))); have n2_ := Aside0.mk (below_step (by repeat (first | (with_reducible first | exact HB.out | apply below_alloc | apply pw_below_drewN | apply below_drew1) | exact HB.out)) hb); clear HO_11; clear HB; have HO_11 := n0_; have HO399 := n1_; have HB := n2_; clear n0_ n1_ n2_; (try clear hb); (try clear hb2); (try clear hk); (try clear hi); (try clear ho0)))
              go_ret
              exact ⟨by first | rfl | (simp [errW_none, errW_some] <;> rfl) | (simp [*, errW_none, errW_some] <;> rfl), by repeat (first | (with_reducible first | exact HB.out | apply below_alloc | apply pw_below_drewN | apply below_drew1) | exact HB.out)⟩
            · rw [if_neg c19] at H
              have c19b0 : ((t397 == 0) != (!(Op.bytesLess a4.toList a3.toList))) = false := by simpa using c19
              (try (have c19b1 : decide ((t397 == 0) = (!(Op.bytesLess a4.toList a3.toList))) = true := by simpa using c19))
              (try (have c19b2 : ((t397 == 0) == (!(Op.bytesLess a4.toList a3.toList))) = true := by simpa using c19))
              (try (have c19b5 : ((t397 == 0) == (!(Op.bytesLess a4.toList a3.toList))) = true := (by have h_ := c19; simp only [bne] at h_; revert h_; generalize ((t397 == 0) == (!(Op.bytesLess a4.toList a3.toList))) = b_; cases b_ <;> simp)))
              clear c19
              have H' := Aside0.mk H
              clear H
              go_wp2_with (first | ((with_reducible refine gate_callee (f := 38) rfl ?_); refine goesL_ (some 47) rfl rfl Try.func38 (by kernel_rfl) rfl #[.slice Ao12 t387.length co12, .string a3, .string a4] rfl (by (try simp only [List.map_toArray, List.map_cons, List.map_nil]); first | done | rfl | (simp only [List.length_drop, List.length_take]; rfl)) ?_; (with_reducible refine (encode_WhereText.calls kj10 _ _ t387 a3 a4 t396 t397 _ ?side1 ?side2 A18.out).mono ?_); (case side1 => repeat (first | exact (Kd.R_reads' HO_11.out).2.2 | (with_reducible refine Kd.C_alloc ?_ _) | (with_reducible refine Kd.C_drewN ?_ _) | (with_reducible refine Kd.C_drew ?_))); (case side2 => exact (Kd.R_reads' HO_11.out).2.1); rintro e w21 ⟨v398, rfl, ho0, hb⟩; refine ⟨_, rfl, ?_⟩; have n0_ := Aside0.mk (Kd.R_below (by (with_reducible repeat (first | apply Kd.R_alloc | apply Kd.R_drewN | apply Kd.R_drew)); exact HO_11.out) hb); have n1_ := Aside0.mk (Kd.R_lower ho0 (below_size (by repeat (first | (with_reducible first | exact HB.out | apply below_alloc | apply pw_below_drewN | apply below_drew1) | exact HB.out)))); have n2_ := Aside0.mk (below_step (by repeat (first | (with_reducible first | exact HB.out | apply below_alloc | apply pw_below_drewN | apply below_drew1) | exact HB.out)) hb); clear HO_11; clear HB; have HO_11 := n0_; have HO399 := n1_; have HB := n2_; clear n0_ n1_ n2_; (try clear hb); (try clear hb2); (try clear hk); (try clear hi); (try clear ho0)))
              (try generalize (!(Op.bytesLess a4.toList a3.toList)) = zb_)
              go_loopg [58] kj10 (fun kq v58 w' => ∃ (x58_2 : Int), v58 = .int .i64 x58_2 ∧ Aside0 (peristylelaw2_EncodeTextsComeBack.l0 kq l2 a3 a4 t387 t396 l1 (l1.length : Int) x58_2 = some r) ∧ Aside0 (kq ≤ kj10) ∧ Aside0 (Kd.R (Kd.int .u8) 5 w' w.heap.size (fun _ => True) (.slice Ao12 t387.length co12) t387) ∧ Aside0 (Kd.R (Kd.int .i64) 3 w' w.heap.size (fun _ => True) v398 t396) ∧ Aside0 (Below w.heap.size w w'))
              case atStart => exact ⟨(0), (by first | rfl | (simp; done) | (simp [*]; done) | (generalize ByteArray.toList _ = l_; cases l_ <;> rfl)), H', ⟨Nat.le_refl _⟩, ⟨by (with_reducible repeat (first | apply Kd.R_alloc | apply Kd.R_drewN | apply Kd.R_drew)); exact HO_11.out⟩, ⟨by (with_reducible repeat (first | apply Kd.R_alloc | apply Kd.R_drewN | apply Kd.R_drew)); exact HO399.out⟩, ⟨by repeat (first | (with_reducible first | exact HB.out | apply below_alloc | apply pw_below_drewN | apply below_drew1) | exact HB.out)⟩⟩
              case round =>
                clear H'
                try clear c1
                try clear c2
                try clear p2
                try clear c3
                try clear c9
                try clear c9b0
                try clear c9b1
                try clear c14
                try clear c14b0
                try clear c14b1
                try clear c17
                try clear c19
                try clear c19b0
                try clear c19b1
                try clear c19b2
                try clear p2
                obtain ⟨x58_2, rfl, HA, HK2, HO_11, HO_15, HB⟩ := hrel
                cases gk with
                | zero => exact absurd HA.out (by simp [peristylelaw2_EncodeTextsComeBack.l0])
                | succ k2 =>
                  have H := HA.out
                  clear HA
                  simp only [peristylelaw2_EncodeTextsComeBack.l0] at H
                  by_cases c22 : x58_2 < (l1.length : Int)
                  · rw [if_pos c22] at H
                    have c22b0 : decide (x58_2 < (l1.length : Int)) = true := decide_eq_true c22
                    clear c22
                    by_cases c23 : 0 ≤ x58_2
                    · rw [if_pos c23] at H
                      have c23b0 : decide (0 ≤ x58_2) = true := decide_eq_true c23
                      clear c23
                      by_cases c24 : x58_2 < (l1.length : Int)
                      · rw [if_pos c24] at H
                        have c24b0 : decide (x58_2 < (l1.length : Int)) = true := decide_eq_true c24
                        clear c24
                        replace H := Option.bind_eq_some_iff.mp H
                        obtain ⟨⟨t401, t402⟩, A250, H⟩ := H
                        replace H : (if t402 = 0 then (if t401.toList = (rdOf ByteArray.empty l1 x58_2).toList then (if ((Op.bytesLess a4.toList a3.toList) = true) then (peristylelaw2_EncodeTextsComeBack.l0 k2 l2 a3 a4 t387 t396 l1 (l1.length : Int) (wrap64 (x58_2 + 1))) else ((slices_Contains_int_int.f k2 t396 x58_2).bind fun t403 => (if ((Op.bytesLess ((rdOf ByteArray.empty l1 x58_2).toList) a3.toList) = true) then (if (t403 != false) = true then (some false) else (peristylelaw2_EncodeTextsComeBack.l0 k2 l2 a3 a4 t387 t396 l1 (l1.length : Int) (wrap64 (x58_2 + 1)))) else (if (t403 != (!(Op.bytesLess a4.toList ((rdOf ByteArray.empty l1 x58_2).toList)))) = true then (some false) else (peristylelaw2_EncodeTextsComeBack.l0 k2 l2 a3 a4 t387 t396 l1 (l1.length : Int) (wrap64 (x58_2 + 1))))))) else (some false)) else (some false)) = some r := H
                        have A25 := Aside0.mk A250
                        clear A250
                        by_cases c26 : t402 = 0
                        · rw [if_pos c26] at H
                          have c26b0 : (t402 == 0) = true := beq_iff_eq.mpr c26
                          have c26b1 : (t402 != 0) = false := bne_eq_false_iff_eq.mpr c26
                          clear c26
                          by_cases c27 : t401.toList = (rdOf ByteArray.empty l1 x58_2).toList
                          · rw [if_pos c27] at H
                            have c27b0 : (t401.toList == (rdOf ByteArray.empty l1 x58_2).toList) = true := beq_iff_eq.mpr c27
                            have c27b1 : (t401.toList != (rdOf ByteArray.empty l1 x58_2).toList) = false := bne_eq_false_iff_eq.mpr c27
                            clear c27
                            by_cases c28 : ((Op.bytesLess a4.toList a3.toList) = true)
                            · rw [if_pos c28] at H
                              have c28b0 : (Op.bytesLess a4.toList a3.toList) = true := c28
                              clear c28
                              have H' := Aside0.mk H
                              clear H
                              have p400 : 0 ≤ (x58_2 : Int) := of_decide_eq_true (by first | (with_reducible assumption) | assumption)
                              have q400 : x58_2 < (l1.length : Int) := of_decide_eq_true (by first | (with_reducible assumption) | assumption)
                              obtain ⟨ad400, e400, hx400_0⟩ := Kd.at_string HR1.out x58_2 p400 q400
                              cases e400
                              replace hx400_0 := (HB.out.cell (World.block_lt_of_cell? w _ hx400_0)).trans hx400_0
                              replace p400 := eq_true p400
                              replace q400 := eq_true q400
                              go_wp2_with (first | ((with_reducible refine gate_callee (f := 39) rfl ?_); refine goesL_ (some 66) rfl rfl Try.func39 (by kernel_rfl) rfl #[.slice Ao12 t387.length co12, .int .i64 x58_2] rfl (by (try simp only [List.map_toArray, List.map_cons, List.map_nil]); first | done | rfl | (simp only [List.length_drop, List.length_take]; rfl)) ?_; (with_reducible refine (encode_TextAt.calls k2 _ _ t387 x58_2 t401 t402 _ ?side1 ?side2 A25.out).mono ?_); (case side1 => repeat (first | exact (Kd.R_reads' HO_11.out).2.2 | (with_reducible refine Kd.C_alloc ?_ _) | (with_reducible refine Kd.C_drewN ?_ _) | (with_reducible refine Kd.C_drew ?_))); (case side2 => exact (Kd.R_reads' HO_11.out).2.1); rintro e w29 ⟨rfl, hb⟩; refine ⟨_, rfl, ?_⟩; have n0_ := Aside0.mk (Kd.R_below (by (with_reducible repeat (first | apply Kd.R_alloc | apply Kd.R_drewN | apply Kd.R_drew)); exact HO_11.out) hb); have n1_ := Aside0.mk (Kd.R_below (by (with_reducible repeat (first | apply Kd.R_alloc | apply Kd.R_drewN | apply Kd.R_drew)); exact HO_15.out) hb); have n2_ := Aside0.mk (below_step (by repeat (first | (with_reducible first | exact HB.out | apply below_alloc | apply pw_below_drewN | apply below_drew1) | exact HB.out)) hb); clear HO_11; clear HO_15; clear HB; have HO_11 := n0_; have HO_15 := n1_; have HB := n2_; clear n0_ n1_ n2_; (try clear hb); (try clear hb2); (try clear hk); (try clear hi)))
                              go_roundg k2
                              case measure => have := HJ10.out; have := HK2.out; omega
                              case rel => exact ⟨(wrap64 (x58_2 + 1)), (by first | rfl | (simp; done) | (simp [*]; done) | (generalize ByteArray.toList _ = l_; cases l_ <;> rfl)), H', ⟨by have := HJ10.out; have := HK2.out; omega⟩, ⟨by (with_reducible repeat (first | apply Kd.R_alloc | apply Kd.R_drewN | apply Kd.R_drew)); exact HO_11.out⟩, ⟨by (with_reducible repeat (first | apply Kd.R_alloc | apply Kd.R_drewN | apply Kd.R_drew)); exact HO_15.out⟩, ⟨by repeat (first | (with_reducible first | exact HB.out | apply below_alloc | apply pw_below_drewN | apply below_drew1) | exact HB.out)⟩⟩
                            · rw [if_neg c28] at H
                              have c28b0 : (Op.bytesLess a4.toList a3.toList) = false := by simpa using c28
                              clear c28
                              replace H := Option.bind_eq_some_iff.mp H
                              obtain ⟨t403, A300, H⟩ := H
                              replace H : (if ((Op.bytesLess ((rdOf ByteArray.empty l1 x58_2).toList) a3.toList) = true) then (if (t403 != false) = true then (some false) else (peristylelaw2_EncodeTextsComeBack.l0 k2 l2 a3 a4 t387 t396 l1 (l1.length : Int) (wrap64 (x58_2 + 1)))) else (if (t403 != (!(Op.bytesLess a4.toList ((rdOf ByteArray.empty l1 x58_2).toList)))) = true then (some false) else (peristylelaw2_EncodeTextsComeBack.l0 k2 l2 a3 a4 t387 t396 l1 (l1.length : Int) (wrap64 (x58_2 + 1))))) = some r := H
                              have A30 := Aside0.mk A300
                              clear A300
                              by_cases c31 : ((Op.bytesLess ((rdOf ByteArray.empty l1 x58_2).toList) a3.toList) = true)
                              · rw [if_pos c31] at H
                                have c31b0 : (Op.bytesLess ((rdOf ByteArray.empty l1 x58_2).toList) a3.toList) = true := c31
                                clear c31
                                by_cases c32 : (t403 != false) = true
                                · rw [if_pos c32] at H
                                  have c32b0 : (t403 != false) = true := c32
                                  (try (have c32b1 : decide (t403 = false) = false := by simpa using c32))
                                  (try (have c32b2 : (t403 == false) = false := by simpa using c32))
                                  (try (have c32b5 : (t403 == false) = false := (by have h_ := c32; simp only [bne] at h_; revert h_; generalize (t403 == false) = b_; cases b_ <;> simp)))
                                  (try (have c32b3 : ¬ (t403 = false) := by simpa using c32))
                                  clear c32
                                  obtain rfl := Option.some.inj H
                                  have p400 : 0 ≤ (x58_2 : Int) := of_decide_eq_true (by first | (with_reducible assumption) | assumption)
                                  have q400 : x58_2 < (l1.length : Int) := of_decide_eq_true (by first | (with_reducible assumption) | assumption)
                                  obtain ⟨ad400, e400, hx400_0⟩ := Kd.at_string HR1.out x58_2 p400 q400
                                  cases e400
                                  replace hx400_0 := (HB.out.cell (World.block_lt_of_cell? w _ hx400_0)).trans hx400_0
                                  replace p400 := eq_true p400
                                  replace q400 := eq_true q400
                                  go_wp2_with (first | ((with_reducible refine gate_callee (f := 39) rfl ?_); refine goesL_ (some 66) rfl rfl Try.func39 (by kernel_rfl) rfl #[.slice Ao12 t387.length co12, .int .i64 x58_2] rfl (by (try simp only [List.map_toArray, List.map_cons, List.map_nil]); first | done | rfl | (simp only [List.length_drop, List.length_take]; rfl)) ?_; (with_reducible refine (encode_TextAt.calls k2 _ _ t387 x58_2 t401 t402 _ ?side1 ?side2 A25.out).mono ?_); (case side1 => repeat (first | exact (Kd.R_reads' HO_11.out).2.2 | (with_reducible refine Kd.C_alloc ?_ _) | (with_reducible refine Kd.C_drewN ?_ _) | (with_reducible refine Kd.C_drew ?_))); (case side2 => exact (Kd.R_reads' HO_11.out).2.1); rintro e w33 ⟨rfl, hb⟩; refine ⟨_, rfl, ?_⟩; have n0_ := Aside0.mk (Kd.R_below (by (with_reducible repeat (first | apply Kd.R_alloc | apply Kd.R_drewN | apply Kd.R_drew)); exact HO_11.out) hb); have n1_ := Aside0.mk (Kd.R_below (by (with_reducible repeat (first | apply Kd.R_alloc | apply Kd.R_drewN | apply Kd.R_drew)); exact HO_15.out) hb); have n2_ := Aside0.mk (below_step (by repeat (first | (with_reducible first | exact HB.out | apply below_alloc | apply pw_below_drewN | apply below_drew1) | exact HB.out)) hb); clear HO_11; clear HO_15; clear HB; have HO_11 := n0_; have HO_15 := n1_; have HB := n2_; clear n0_ n1_ n2_; (try clear hb); (try clear hb2); (try clear hk); (try clear hi); obtain ⟨Ao34, co34, eo34⟩ := Kd.R_slice HO_15.out; subst eo34) | (go_at_call 28; (with_reducible refine (slices_Contains_int_int.calls k2 _ _ t396 x58_2 t403 _ ?side1 ?side2 A30.out).mono ?_); (case side1 => repeat (first | exact (Kd.R_reads' HO_15.out).2.2 | (with_reducible refine Kd.C_alloc ?_ _) | (with_reducible refine Kd.C_drewN ?_ _) | (with_reducible refine Kd.C_drew ?_))); (case side2 => exact (Kd.R_reads' HO_15.out).2.1); rintro e w' ⟨rfl, ⟨nd, rfl⟩⟩))
                                  go_ret
                                  exact ⟨by first | rfl | (simp [errW_none, errW_some] <;> rfl) | (simp [*, errW_none, errW_some] <;> rfl), by repeat (first | (with_reducible first | exact HB.out | apply below_alloc | apply pw_below_drewN | apply below_drew1) | exact HB.out)⟩
                                · rw [if_neg c32] at H
                                  have c32b0 : (t403 != false) = false := by simpa using c32
                                  (try (have c32b1 : decide (t403 = false) = true := by simpa using c32))
                                  (try (have c32b2 : (t403 == false) = true := by simpa using c32))
                                  (try (have c32b5 : (t403 == false) = true := (by have h_ := c32; simp only [bne] at h_; revert h_; generalize (t403 == false) = b_; cases b_ <;> simp)))
                                  clear c32
                                  have H' := Aside0.mk H
                                  clear H
                                  have p400 : 0 ≤ (x58_2 : Int) := of_decide_eq_true (by first | (with_reducible assumption) | assumption)
                                  have q400 : x58_2 < (l1.length : Int) := of_decide_eq_true (by first | (with_reducible assumption) | assumption)
                                  obtain ⟨ad400, e400, hx400_0⟩ := Kd.at_string HR1.out x58_2 p400 q400
                                  cases e400
                                  replace hx400_0 := (HB.out.cell (World.block_lt_of_cell? w _ hx400_0)).trans hx400_0
                                  replace p400 := eq_true p400
                                  replace q400 := eq_true q400
                                  go_wp2_with (first | ((with_reducible refine gate_callee (f := 39) rfl ?_); refine goesL_ (some 66) rfl rfl Try.func39 (by kernel_rfl) rfl #[.slice Ao12 t387.length co12, .int .i64 x58_2] rfl (by (try simp only [List.map_toArray, List.map_cons, List.map_nil]); first | done | rfl | (simp only [List.length_drop, List.length_take]; rfl)) ?_; (with_reducible refine (encode_TextAt.calls k2 _ _ t387 x58_2 t401 t402 _ ?side1 ?side2 A25.out).mono ?_); (case side1 => repeat (first | exact (Kd.R_reads' HO_11.out).2.2 | (with_reducible refine Kd.C_alloc ?_ _) | (with_reducible refine Kd.C_drewN ?_ _) | (with_reducible refine Kd.C_drew ?_))); (case side2 => exact (Kd.R_reads' HO_11.out).2.1); rintro e w35 ⟨rfl, hb⟩; refine ⟨_, rfl, ?_⟩; have n0_ := Aside0.mk (Kd.R_below (by (with_reducible repeat (first | apply Kd.R_alloc | apply Kd.R_drewN | apply Kd.R_drew)); exact HO_11.out) hb); have n1_ := Aside0.mk (Kd.R_below (by (with_reducible repeat (first | apply Kd.R_alloc | apply Kd.R_drewN | apply Kd.R_drew)); exact HO_15.out) hb); have n2_ := Aside0.mk (below_step (by repeat (first | (with_reducible first | exact HB.out | apply below_alloc | apply pw_below_drewN | apply below_drew1) | exact HB.out)) hb); clear HO_11; clear HO_15; clear HB; have HO_11 := n0_; have HO_15 := n1_; have HB := n2_; clear n0_ n1_ n2_; (try clear hb); (try clear hb2); (try clear hk); (try clear hi); obtain ⟨Ao36, co36, eo36⟩ := Kd.R_slice HO_15.out; subst eo36) | (go_at_call 28; (with_reducible refine (slices_Contains_int_int.calls k2 _ _ t396 x58_2 t403 _ ?side1 ?side2 A30.out).mono ?_); (case side1 => repeat (first | exact (Kd.R_reads' HO_15.out).2.2 | (with_reducible refine Kd.C_alloc ?_ _) | (with_reducible refine Kd.C_drewN ?_ _) | (with_reducible refine Kd.C_drew ?_))); (case side2 => exact (Kd.R_reads' HO_15.out).2.1); rintro e w' ⟨rfl, ⟨nd, rfl⟩⟩))
                                  go_roundg k2
                                  case measure => have := HJ10.out; have := HK2.out; omega
                                  case rel => exact ⟨(wrap64 (x58_2 + 1)), (by first | rfl | (simp; done) | (simp [*]; done) | (generalize ByteArray.toList _ = l_; cases l_ <;> rfl)), H', ⟨by have := HJ10.out; have := HK2.out; omega⟩, ⟨by (with_reducible repeat (first | apply Kd.R_alloc | apply Kd.R_drewN | apply Kd.R_drew)); exact HO_11.out⟩, ⟨by (with_reducible repeat (first | apply Kd.R_alloc | apply Kd.R_drewN | apply Kd.R_drew)); exact HO_15.out⟩, ⟨by repeat (first | (with_reducible first | exact HB.out | apply below_alloc | apply pw_below_drewN | apply below_drew1) | exact HB.out)⟩⟩
                              · rw [if_neg c31] at H
                                have c31b0 : (Op.bytesLess ((rdOf ByteArray.empty l1 x58_2).toList) a3.toList) = false := by simpa using c31
                                clear c31
                                by_cases c37 : (t403 != (!(Op.bytesLess a4.toList ((rdOf ByteArray.empty l1 x58_2).toList)))) = true
                                · rw [if_pos c37] at H
                                  have c37b0 : (t403 != (!(Op.bytesLess a4.toList ((rdOf ByteArray.empty l1 x58_2).toList)))) = true := c37
                                  (try (have c37b1 : decide (t403 = (!(Op.bytesLess a4.toList ((rdOf ByteArray.empty l1 x58_2).toList)))) = false := by simpa using c37))
                                  (try (have c37b2 : (t403 == (!(Op.bytesLess a4.toList ((rdOf ByteArray.empty l1 x58_2).toList)))) = false := by simpa using c37))
                                  (try (have c37b5 : (t403 == (!(Op.bytesLess a4.toList ((rdOf ByteArray.empty l1 x58_2).toList)))) = false := (by have h_ := c37; simp only [bne] at h_; revert h_; generalize (t403 == (!(Op.bytesLess a4.toList ((rdOf ByteArray.empty l1 x58_2).toList)))) = b_; cases b_ <;> simp)))
                                  (try (have c37b3 : ¬ (t403 = (!(Op.bytesLess a4.toList ((rdOf ByteArray.empty l1 x58_2).toList)))) := by simpa using c37))
                                  clear c37
                                  obtain rfl := Option.some.inj H
                                  have p400 : 0 ≤ (x58_2 : Int) := of_decide_eq_true (by first | (with_reducible assumption) | assumption)
                                  have q400 : x58_2 < (l1.length : Int) := of_decide_eq_true (by first | (with_reducible assumption) | assumption)
                                  obtain ⟨ad400, e400, hx400_0⟩ := Kd.at_string HR1.out x58_2 p400 q400
                                  cases e400
                                  replace hx400_0 := (HB.out.cell (World.block_lt_of_cell? w _ hx400_0)).trans hx400_0
                                  replace p400 := eq_true p400
                                  replace q400 := eq_true q400
                                  go_wp2_with (first | ((with_reducible refine gate_callee (f := 39) rfl ?_); refine goesL_ (some 66) rfl rfl Try.func39 (by kernel_rfl) rfl #[.slice Ao12 t387.length co12, .int .i64 x58_2] rfl (by (try simp only [List.map_toArray, List.map_cons, List.map_nil]); first | done | rfl | (simp only [List.length_drop, List.length_take]; rfl)) ?_; (with_reducible refine (encode_TextAt.calls k2 _ _ t387 x58_2 t401 t402 _ ?side1 ?side2 A25.out).mono ?_); (case side1 => repeat (first | exact (Kd.R_reads' HO_11.out).2.2 | (with_reducible refine Kd.C_alloc ?_ _) | (with_reducible refine Kd.C_drewN ?_ _) | (with_reducible refine Kd.C_drew ?_))); (case side2 => exact (Kd.R_reads' HO_11.out).2.1); rintro e w38 ⟨rfl, hb⟩; refine ⟨_, rfl, ?_⟩; have n0_ := Aside0.mk (Kd.R_below (by (with_reducible repeat (first | apply Kd.R_alloc | apply Kd.R_drewN | apply Kd.R_drew)); exact HO_11.out) hb); have n1_ := Aside0.mk (Kd.R_below (by (with_reducible repeat (first | apply Kd.R_alloc | apply Kd.R_drewN | apply Kd.R_drew)); exact HO_15.out) hb); have n2_ := Aside0.mk (below_step (by repeat (first | (with_reducible first | exact HB.out | apply below_alloc | apply pw_below_drewN | apply below_drew1) | exact HB.out)) hb); clear HO_11; clear HO_15; clear HB; have HO_11 := n0_; have HO_15 := n1_; have HB := n2_; clear n0_ n1_ n2_; (try clear hb); (try clear hb2); (try clear hk); (try clear hi); obtain ⟨Ao39, co39, eo39⟩ := Kd.R_slice HO_15.out; subst eo39) | (go_at_call 28; (with_reducible refine (slices_Contains_int_int.calls k2 _ _ t396 x58_2 t403 _ ?side1 ?side2 A30.out).mono ?_); (case side1 => repeat (first | exact (Kd.R_reads' HO_15.out).2.2 | (with_reducible refine Kd.C_alloc ?_ _) | (with_reducible refine Kd.C_drewN ?_ _) | (with_reducible refine Kd.C_drew ?_))); (case side2 => exact (Kd.R_reads' HO_15.out).2.1); rintro e w' ⟨rfl, ⟨nd, rfl⟩⟩))
                                  go_ret
                                  exact ⟨by first | rfl | (simp [errW_none, errW_some] <;> rfl) | (simp [*, errW_none, errW_some] <;> rfl), by repeat (first | (with_reducible first | exact HB.out | apply below_alloc | apply pw_below_drewN | apply below_drew1) | exact HB.out)⟩
                                · rw [if_neg c37] at H
                                  have c37b0 : (t403 != (!(Op.bytesLess a4.toList ((rdOf ByteArray.empty l1 x58_2).toList)))) = false := by simpa using c37
                                  (try (have c37b1 : decide (t403 = (!(Op.bytesLess a4.toList ((rdOf ByteArray.empty l1 x58_2).toList)))) = true := by simpa using c37))
                                  (try (have c37b2 : (t403 == (!(Op.bytesLess a4.toList ((rdOf ByteArray.empty l1 x58_2).toList)))) = true := by simpa using c37))
                                  (try (have c37b5 : (t403 == (!(Op.bytesLess a4.toList ((rdOf ByteArray.empty l1 x58_2).toList)))) = true := (by have h_ := c37; simp only [bne] at h_; revert h_; generalize (t403 == (!(Op.bytesLess a4.toList ((rdOf ByteArray.empty l1 x58_2).toList)))) = b_; cases b_ <;> simp)))
                                  clear c37
                                  have H' := Aside0.mk H
                                  clear H
                                  have p400 : 0 ≤ (x58_2 : Int) := of_decide_eq_true (by first | (with_reducible assumption) | assumption)
                                  have q400 : x58_2 < (l1.length : Int) := of_decide_eq_true (by first | (with_reducible assumption) | assumption)
                                  obtain ⟨ad400, e400, hx400_0⟩ := Kd.at_string HR1.out x58_2 p400 q400
                                  cases e400
                                  replace hx400_0 := (HB.out.cell (World.block_lt_of_cell? w _ hx400_0)).trans hx400_0
                                  replace p400 := eq_true p400
                                  replace q400 := eq_true q400
                                  go_wp2_with (first | ((with_reducible refine gate_callee (f := 39) rfl ?_); refine goesL_ (some 66) rfl rfl Try.func39 (by kernel_rfl) rfl #[.slice Ao12 t387.length co12, .int .i64 x58_2] rfl (by (try simp only [List.map_toArray, List.map_cons, List.map_nil]); first | done | rfl | (simp only [List.length_drop, List.length_take]; rfl)) ?_; (with_reducible refine (encode_TextAt.calls k2 _ _ t387 x58_2 t401 t402 _ ?side1 ?side2 A25.out).mono ?_); (case side1 => repeat (first | exact (Kd.R_reads' HO_11.out).2.2 | (with_reducible refine Kd.C_alloc ?_ _) | (with_reducible refine Kd.C_drewN ?_ _) | (with_reducible refine Kd.C_drew ?_))); (case side2 => exact (Kd.R_reads' HO_11.out).2.1); rintro e w40 ⟨rfl, hb⟩; refine ⟨_, rfl, ?_⟩; have n0_ := Aside0.mk (Kd.R_below (by (with_reducible repeat (first | apply Kd.R_alloc | apply Kd.R_drewN | apply Kd.R_drew)); exact HO_11.out) hb); have n1_ := Aside0.mk (Kd.R_below (by (with_reducible repeat (first | apply Kd.R_alloc | apply Kd.R_drewN | apply Kd.R_drew)); exact HO_15.out) hb); have n2_ := Aside0.mk (below_step (by repeat (first | (with_reducible first | exact HB.out | apply below_alloc | apply pw_below_drewN | apply below_drew1) | exact HB.out)) hb); clear HO_11; clear HO_15; clear HB; have HO_11 := n0_; have HO_15 := n1_; have HB := n2_; clear n0_ n1_ n2_; (try clear hb); (try clear hb2); (try clear hk); (try clear hi); obtain ⟨Ao41, co41, eo41⟩ := Kd.R_slice HO_15.out; subst eo41) | (go_at_call 28; (with_reducible refine (slices_Contains_int_int.calls k2 _ _ t396 x58_2 t403 _ ?side1 ?side2 A30.out).mono ?_); (case side1 => repeat (first | exact (Kd.R_reads' HO_15.out).2.2 | (with_reducible refine Kd.C_alloc ?_ _) | (with_reducible refine Kd.C_drewN ?_ _) | (with_reducible refine Kd.C_drew ?_))); (case side2 => exact (Kd.R_reads' HO_15.out).2.1); rintro e w' ⟨rfl, ⟨nd, rfl⟩⟩))
                                  go_roundg k2
                                  case measure => have := HJ10.out; have := HK2.out; omega
                                  case rel => exact ⟨(wrap64 (x58_2 + 1)), (by first | rfl | (simp; done) | (simp [*]; done) | (generalize ByteArray.toList _ = l_; cases l_ <;> rfl)), H', ⟨by have := HJ10.out; have := HK2.out; omega⟩, ⟨by (with_reducible repeat (first | apply Kd.R_alloc | apply Kd.R_drewN | apply Kd.R_drew)); exact HO_11.out⟩, ⟨by (with_reducible repeat (first | apply Kd.R_alloc | apply Kd.R_drewN | apply Kd.R_drew)); exact HO_15.out⟩, ⟨by repeat (first | (with_reducible first | exact HB.out | apply below_alloc | apply pw_below_drewN | apply below_drew1) | exact HB.out)⟩⟩
                          · rw [if_neg c27] at H
                            have c27b0 : (t401.toList == (rdOf ByteArray.empty l1 x58_2).toList) = false := beq_eq_false_iff_ne.mpr c27
                            have c27b1 : (t401.toList != (rdOf ByteArray.empty l1 x58_2).toList) = true := bne_iff_ne.mpr c27
                            obtain rfl := Option.some.inj H
                            have p400 : 0 ≤ (x58_2 : Int) := of_decide_eq_true (by first | (with_reducible assumption) | assumption)
                            have q400 : x58_2 < (l1.length : Int) := of_decide_eq_true (by first | (with_reducible assumption) | assumption)
                            obtain ⟨ad400, e400, hx400_0⟩ := Kd.at_string HR1.out x58_2 p400 q400
                            cases e400
                            replace hx400_0 := (HB.out.cell (World.block_lt_of_cell? w _ hx400_0)).trans hx400_0
                            replace p400 := eq_true p400
                            replace q400 := eq_true q400
                            go_wp2_with (first | ((with_reducible refine gate_callee (f := 39) rfl ?_); refine goesL_ (some 66) rfl rfl Try.func39 (by kernel_rfl) rfl #[.slice Ao12 t387.length co12, .int .i64 x58_2] rfl (by (try simp only [List.map_toArray, List.map_cons, List.map_nil]); first | done | rfl | (simp only [List.length_drop, List.length_take]; rfl)) ?_; (with_reducible refine (encode_TextAt.calls k2 _ _ t387 x58_2 t401 t402 _ ?side1 ?side2 A25.out).mono ?_); (case side1 => repeat (first | exact (Kd.R_reads' HO_11.out).2.2 | (with_reducible refine Kd.C_alloc ?_ _) | (with_reducible refine Kd.C_drewN ?_ _) | (with_reducible refine Kd.C_drew ?_))); (case side2 => exact (Kd.R_reads' HO_11.out).2.1); rintro e w42 ⟨rfl, hb⟩; refine ⟨_, rfl, ?_⟩; have n0_ := Aside0.mk (Kd.R_below (by (with_reducible repeat (first | apply Kd.R_alloc | apply Kd.R_drewN | apply Kd.R_drew)); exact HO_11.out) hb); have n1_ := Aside0.mk (Kd.R_below (by (with_reducible repeat (first | apply Kd.R_alloc | apply Kd.R_drewN | apply Kd.R_drew)); exact HO_15.out) hb); have n2_ := Aside0.mk (below_step (by repeat (first | (with_reducible first | exact HB.out | apply below_alloc | apply pw_below_drewN | apply below_drew1) | exact HB.out)) hb); clear HO_11; clear HO_15; clear HB; have HO_11 := n0_; have HO_15 := n1_; have HB := n2_; clear n0_ n1_ n2_; (try clear hb); (try clear hb2); (try clear hk); (try clear hi)))
                            go_ret
                            exact ⟨by first | rfl | (simp [errW_none, errW_some] <;> rfl) | (simp [*, errW_none, errW_some] <;> rfl), by repeat (first | (with_reducible first | exact HB.out | apply below_alloc | apply pw_below_drewN | apply below_drew1) | exact HB.out)⟩
                        · rw [if_neg c26] at H
                          have c26b0 : (t402 == 0) = false := beq_eq_false_iff_ne.mpr c26
                          have c26b1 : (t402 != 0) = true := bne_iff_ne.mpr c26
                          obtain rfl := Option.some.inj H
                          have p400 : 0 ≤ (x58_2 : Int) := of_decide_eq_true (by first | (with_reducible assumption) | assumption)
                          have q400 : x58_2 < (l1.length : Int) := of_decide_eq_true (by first | (with_reducible assumption) | assumption)
                          obtain ⟨ad400, e400, hx400_0⟩ := Kd.at_string HR1.out x58_2 p400 q400
                          cases e400
                          replace hx400_0 := (HB.out.cell (World.block_lt_of_cell? w _ hx400_0)).trans hx400_0
                          replace p400 := eq_true p400
                          replace q400 := eq_true q400
                          go_wp2_with (first | ((with_reducible refine gate_callee (f := 39) rfl ?_); refine goesL_ (some 66) rfl rfl Try.func39 (by kernel_rfl) rfl #[.slice Ao12 t387.length co12, .int .i64 x58_2] rfl (by (try simp only [List.map_toArray, List.map_cons, List.map_nil]); first | done | rfl | (simp only [List.length_drop, List.length_take]; rfl)) ?_; (with_reducible refine (encode_TextAt.calls k2 _ _ t387 x58_2 t401 t402 _ ?side1 ?side2 A25.out).mono ?_); (case side1 => repeat (first | exact (Kd.R_reads' HO_11.out).2.2 | (with_reducible refine Kd.C_alloc ?_ _) | (with_reducible refine Kd.C_drewN ?_ _) | (with_reducible refine Kd.C_drew ?_))); (case side2 => exact (Kd.R_reads' HO_11.out).2.1); rintro e w43 ⟨rfl, hb⟩; refine ⟨_, rfl, ?_⟩; have n0_ := Aside0.mk (Kd.R_below (by (with_reducible repeat (first | apply Kd.R_alloc | apply Kd.R_drewN | apply Kd.R_drew)); exact HO_11.out) hb); have n1_ := Aside0.mk (Kd.R_below (by (with_reducible repeat (first | apply Kd.R_alloc | apply Kd.R_drewN | apply Kd.R_drew)); exact HO_15.out) hb); have n2_ := Aside0.mk (below_step (by repeat (first | (with_reducible first | exact HB.out | apply below_alloc | apply pw_below_drewN | apply below_drew1) | exact HB.out)) hb); clear HO_11; clear HO_15; clear HB; have HO_11 := n0_; have HO_15 := n1_; have HB := n2_; clear n0_ n1_ n2_; (try clear hb); (try clear hb2); (try clear hk); (try clear hi)))
                          go_ret
                          exact ⟨by first | rfl | (simp [errW_none, errW_some] <;> rfl) | (simp [*, errW_none, errW_some] <;> rfl), by repeat (first | (with_reducible first | exact HB.out | apply below_alloc | apply pw_below_drewN | apply below_drew1) | exact HB.out)⟩
                      · rw [if_neg c24] at H
                        exact absurd H (by simp)
                    · rw [if_neg c23] at H
                      exact absurd H (by simp)
                  · rw [if_neg c22] at H
                    have c22b0 : decide (x58_2 < (l1.length : Int)) = false := decide_eq_false c22
                    clear c22
                    have H' := Aside0.mk H
                    clear H
                    go_wp2
                    go_meet
                    case rel => exact ⟨_, H', ⟨by have := HJ10.out; have := HK2.out; first | omega | exact Nat.le_refl _⟩, ⟨by repeat (first | (with_reducible first | exact HB.out | apply below_alloc | apply pw_below_drewN | apply below_drew1) | exact HB.out)⟩⟩
    · rw [if_neg c9] at H
      have c9b0 : (t388 == 0) = false := beq_eq_false_iff_ne.mpr c9
      have c9b1 : (t388 != 0) = true := bne_iff_ne.mpr c9
      (first | rw [c9b0] | (simp only [i64_w, i32_w]; rw [c9b0]) | skip)
      (try rw [c9b1])
      have H' := Aside0.mk H
      clear H
      go_wp2
      go_meet
      case rel => exact ⟨_, H', ⟨by first | omega | exact Nat.le_refl _⟩, ⟨by repeat (first | (with_reducible first | exact HB.out | apply below_alloc | apply pw_below_drewN | apply below_drew1) | exact HB.out)⟩⟩
  case rest =>
    clear HC7
    try clear c1
    try clear c2
    try clear p2
    try clear c3
    try clear p4
    try clear q4
    try clear hx4
    try clear p6
    try clear c9
    try clear c9b0
    try clear c9b1
    try clear c14
    try clear c14b0
    try clear c14b1
    try clear c17
    try clear c19
    try clear c19b0
    try clear c19b1
    try clear c19b2
    try clear c22
    try clear c22b0
    try clear c23
    try clear c23b0
    try clear c24
    try clear c24b0
    try clear c26
    try clear c26b0
    try clear c26b1
    try clear c27
    try clear c27b0
    try clear c27b1
    try clear c28
    try clear c28b0
    try clear c31
    try clear c31b0
    try clear c32
    try clear c32b0
    try clear c32b1
    try clear c32b2
    try clear c35
    try clear c36
    try clear c37
    try clear c37b0
    try clear c37b1
    try clear c37b2
    try clear c38
    try clear c39
    try clear p40
    try clear q40
    try clear hx40
    try clear hx400_0
    try clear p2
    try clear p400
    try clear q400
    obtain ⟨kq, HA, HJ6, HB⟩ := hcut
    cases kq with
    | zero => exact absurd HA.out (by simp [peristylelaw2_EncodeTextsComeBack.j2])
    | succ kj6 =>
      have H := HA.out
      clear HA
      simp only [peristylelaw2_EncodeTextsComeBack.j2] at H
      replace H := Option.bind_eq_some_iff.mp H
      obtain ⟨⟨t404, t405⟩, A440, H⟩ := H
      replace H : (if t405 = 0 then (if 0 < (l2.length : Int) then ((encode_EncodeTexts.f kj6 (wrap64 (rd l2 0)) t404).bind fun bt409 => (if bt409.2 = 0 then ((slices_Equal_byte_byte.f kj6 bt409.1 l2).bind fun t413 => (if t413 = true then ((peristylelaw2_awake.f kj6).bind fun t414 => (some t414)) else (some false))) else (some false))) else (none)) else (if (t404.length : Int) = 0 then ((peristylelaw2_awake.f kj6).bind fun t415 => (some t415)) else (some false))) = some r := H
      have A44 := Aside0.mk A440
      clear A440
      by_cases c45 : t405 = 0
      · rw [if_pos c45] at H
        have c45b0 : (t405 == 0) = true := beq_iff_eq.mpr c45
        have c45b1 : (t405 != 0) = false := bne_eq_false_iff_eq.mpr c45
        clear c45
        by_cases c46 : 0 < (l2.length : Int)
        · rw [if_pos c46] at H
          have c46b0 : decide (0 < (l2.length : Int)) = true := decide_eq_true c46
          have c46b1 : decide (0 < l2.length) = true := decide_eq_true (by omega)
          clear c46
          replace H := Option.bind_eq_some_iff.mp H
          obtain ⟨⟨t409, t410⟩, A470, H⟩ := H
          replace H : (if t410 = 0 then ((slices_Equal_byte_byte.f kj6 t409 l2).bind fun t413 => (if t413 = true then ((peristylelaw2_awake.f kj6).bind fun t414 => (some t414)) else (some false))) else (some false)) = some r := H
          have A47 := Aside0.mk A470
          clear A470
          by_cases c48 : t410 = 0
          · rw [if_pos c48] at H
            have c48b0 : (t410 == 0) = true := beq_iff_eq.mpr c48
            have c48b1 : (t410 != 0) = false := bne_eq_false_iff_eq.mpr c48
            clear c48
            replace H := Option.bind_eq_some_iff.mp H
            obtain ⟨t413, A490, H⟩ := H
            replace H : (if t413 = true then ((peristylelaw2_awake.f kj6).bind fun t414 => (some t414)) else (some false)) = some r := H
            have A49 := Aside0.mk A490
            clear A490
            by_cases c50 : t413 = true
            · subst c50
              have H1 : ((peristylelaw2_awake.f kj6).bind fun t414 => (some t414)) = some r := by rw [if_pos rfl] at H; exact H
              clear H
              have H := H1
              clear H1
              replace H := Option.bind_eq_some_iff.mp H
              obtain ⟨t414, A510, H⟩ := H
              replace H : (some t414) = some r := H
              have A51 := Aside0.mk A510
              clear A510
              obtain rfl := Option.some.inj H
              go_wp2_with (first | ((with_reducible refine gate_callee (f := 36) rfl ?_); refine goesL_ (some 98) rfl rfl Try.func36 (by kernel_rfl) rfl #[.slice A2 l2.length c2] rfl (by (try simp only [List.map_toArray, List.map_cons, List.map_nil]); first | done | rfl | (simp only [List.length_drop, List.length_take]; rfl)) ?_; (with_reducible refine (encode_DecodeTexts.calls kj6 _ _ l2 t404 t405 _ ?side1 ?side2 A44.out).mono ?_); (case side1 => repeat (first | exact (Kd.C_below HR2.out HB.out) | (with_reducible refine Kd.C_alloc ?_ _) | (with_reducible refine Kd.C_drewN ?_ _) | (with_reducible refine Kd.C_drew ?_))); (case side2 => exact HC2.out); rintro e w52 ⟨v406, rfl, ho0, hb⟩; refine ⟨_, rfl, ?_⟩; have n0_ := Aside0.mk (Kd.R_lower ho0 (below_size (by repeat (first | (with_reducible first | exact HB.out | apply below_alloc | apply pw_below_drewN | apply below_drew1) | exact HB.out)))); have n1_ := Aside0.mk (below_step (by repeat (first | (with_reducible first | exact HB.out | apply below_alloc | apply pw_below_drewN | apply below_drew1) | exact HB.out)) hb); clear HB; have HO407 := n0_; have HB := n1_; clear n0_ n1_; (try clear hb); (try clear hb2); (try clear hk); (try clear hi); (try clear ho0); have p408 : 0 ≤ (0 : Int) := (by omega); have q408 : 0 < (l2.length : Int) := of_decide_eq_true (by first | (with_reducible assumption) | assumption); obtain ⟨ad408, e408, hx408_0⟩ := Kd.at_int HR2.out 0 p408 q408; cases e408; have qi408 : (0 < l2.length) = True := eq_true (by omega); (try rw [show ((0 : Int)).toNat = 0 from rfl] at hx408_0); (try rw [Addr.add_zero'] at hx408_0); replace hx408_0 := (HB.out.cell (World.block_lt_of_cell? w _ hx408_0)).trans hx408_0; replace p408 := eq_true p408; replace q408 := eq_true q408; obtain ⟨Ao53, co53, eo53⟩ := Kd.R_slice HO407.out; subst eo53) | ((with_reducible refine gate_callee (f := 35) rfl ?_); refine goesL_ (some 115) rfl rfl Try.func35 (by kernel_rfl) rfl #[.int .i64 (wrap64 (rd l2 0)), .slice Ao53 t404.length co53] rfl (by (try simp only [List.map_toArray, List.map_cons, List.map_nil]); first | done | rfl | (simp only [List.length_drop, List.length_take]; rfl)) ?_; (with_reducible refine (encode_EncodeTexts.calls kj6 (wrap64 (rd l2 0)) _ _ t404 t409 t410 _ ?side1 ?side2 A47.out).mono ?_); (case side1 => repeat (first | exact (Kd.R_reads' HO407.out).2.2 | (with_reducible refine Kd.C_alloc ?_ _) | (with_reducible refine Kd.C_drewN ?_ _) | (with_reducible refine Kd.C_drew ?_))); (case side2 => exact (Kd.R_reads' HO407.out).2.1); rintro e w54 ⟨v411, rfl, ho0, hb⟩; refine ⟨_, rfl, ?_⟩; have n0_ := Aside0.mk (Kd.R_below (by (with_reducible repeat (first | apply Kd.R_alloc | apply Kd.R_drewN | apply Kd.R_drew)); exact HO407.out) hb); have n1_ := Aside0.mk (Kd.R_lower ho0 (below_size (by repeat (first | (with_reducible first | exact HB.out | apply below_alloc | apply pw_below_drewN | apply below_drew1) | exact HB.out)))); have n2_ := Aside0.mk (below_step (by repeat (first | (with_reducible first | exact HB.out | apply below_alloc | apply pw_below_drewN | apply below_drew1) | exact HB.out)) hb); clear HO407; clear HB; have HO407 := n0_; have HO412 := n1_; have HB := n2_; clear n0_ n1_ n2_; (try clear hb); (try clear hb2); (try clear hk); (try clear hi); (try clear ho0); obtain ⟨Ao55, co55, eo55⟩ := Kd.R_slice HO412.out; subst eo55) | (go_at_call 17; (with_reducible refine (slices_Equal_byte_byte.calls kj6 _ _ t409 _ _ l2 true _ ?side1 ?side2 ?side3 ?side4 A49.out).mono ?_); (case side1 => repeat (first | exact (Kd.R_reads' HO412.out).2.2 | (with_reducible refine Kd.C_alloc ?_ _) | (with_reducible refine Kd.C_drewN ?_ _) | (with_reducible refine Kd.C_drew ?_))); (case side2 => exact (Kd.R_reads' HO412.out).2.1); (case side3 => repeat (first | exact (Kd.C_below HR2.out HB.out) | (with_reducible refine Kd.C_alloc ?_ _) | (with_reducible refine Kd.C_drewN ?_ _) | (with_reducible refine Kd.C_drew ?_))); (case side4 => exact HC2.out); rintro e w' ⟨rfl, ⟨nd, rfl⟩⟩) | (go_at_call 13; (with_reducible refine (peristylelaw2_awake.calls kj6  t414 _ A51.out).mono ?_); rintro e w56 ⟨rfl, hb⟩; have n0_ := Aside0.mk (Kd.R_below (by (with_reducible repeat (first | apply Kd.R_alloc | apply Kd.R_drewN | apply Kd.R_drew)); exact HO407.out) hb); have n1_ := Aside0.mk (Kd.R_below (by (with_reducible repeat (first | apply Kd.R_alloc | apply Kd.R_drewN | apply Kd.R_drew)); exact HO412.out) hb); have n2_ := Aside0.mk (below_step (by repeat (first | (with_reducible first | exact HB.out | apply below_alloc | apply pw_below_drewN | apply below_drew1) | exact HB.out)) hb); clear HO407; clear HO412; clear HB; have HO407 := n0_; have HO412 := n1_; have HB := n2_; clear n0_ n1_ n2_; (try clear hb); (try clear hb2); (try clear hk); (try clear hi)))
              go_ret
              exact ⟨by first | rfl | (simp [errW_none, errW_some] <;> rfl) | (simp [*, errW_none, errW_some] <;> rfl), by repeat (first | (with_reducible first | exact HB.out | apply below_alloc | apply pw_below_drewN | apply below_drew1) | exact HB.out)⟩
            · replace c50 := Bool.eq_false_iff.mpr c50
              subst c50
              have H1 : (some false) = some r := by rw [if_neg (show ¬ (false = true) by decide)] at H; exact H
              clear H
              have H := H1
              clear H1
              obtain rfl := Option.some.inj H
              go_wp2_with (first | ((with_reducible refine gate_callee (f := 36) rfl ?_); refine goesL_ (some 98) rfl rfl Try.func36 (by kernel_rfl) rfl #[.slice A2 l2.length c2] rfl (by (try simp only [List.map_toArray, List.map_cons, List.map_nil]); first | done | rfl | (simp only [List.length_drop, List.length_take]; rfl)) ?_; (with_reducible refine (encode_DecodeTexts.calls kj6 _ _ l2 t404 t405 _ ?side1 ?side2 A44.out).mono ?_); (case side1 => repeat (first | exact (Kd.C_below HR2.out HB.out) | (with_reducible refine Kd.C_alloc ?_ _) | (with_reducible refine Kd.C_drewN ?_ _) | (with_reducible refine Kd.C_drew ?_))); (case side2 => exact HC2.out); rintro e w57 ⟨v406, rfl, ho0, hb⟩; refine ⟨_, rfl, ?_⟩; have n0_ := Aside0.mk (Kd.R_lower ho0 (below_size (by repeat (first | (with_reducible first | exact HB.out | apply below_alloc | apply pw_below_drewN | apply below_drew1) | exact HB.out)))); have n1_ := Aside0.mk (below_step (by repeat (first | (with_reducible first | exact HB.out | apply below_alloc | apply pw_below_drewN | apply below_drew1) | exact HB.out)) hb); clear HB; have HO407 := n0_; have HB := n1_; clear n0_ n1_; (try clear hb); (try clear hb2); (try clear hk); (try clear hi); (try clear ho0); have p408 : 0 ≤ (0 : Int) := (by omega); have q408 : 0 < (l2.length : Int) := of_decide_eq_true (by first | (with_reducible assumption) | assumption); obtain ⟨ad408, e408, hx408_0⟩ := Kd.at_int HR2.out 0 p408 q408; cases e408; have qi408 : (0 < l2.length) = True := eq_true (by omega); (try rw [show ((0 : Int)).toNat = 0 from rfl] at hx408_0); (try rw [Addr.add_zero'] at hx408_0); replace hx408_0 := (HB.out.cell (World.block_lt_of_cell? w _ hx408_0)).trans hx408_0; replace p408 := eq_true p408; replace q408 := eq_true q408; obtain ⟨Ao58, co58, eo58⟩ := Kd.R_slice HO407.out; subst eo58) | ((with_reducible refine gate_callee (f := 35) rfl ?_); refine goesL_ (some 115) rfl rfl Try.func35 (by kernel_rfl) rfl #[.int .i64 (wrap64 (rd l2 0)), .slice Ao58 t404.length co58] rfl (by (try simp only [List.map_toArray, List.map_cons, List.map_nil]); first | done | rfl | (simp only [List.length_drop, List.length_take]; rfl)) ?_; (with_reducible refine (encode_EncodeTexts.calls kj6 (wrap64 (rd l2 0)) _ _ t404 t409 t410 _ ?side1 ?side2 A47.out).mono ?_); (case side1 => repeat (first | exact (Kd.R_reads' HO407.out).2.2 | (with_reducible refine Kd.C_alloc ?_ _) | (with_reducible refine Kd.C_drewN ?_ _) | (with_reducible refine Kd.C_drew ?_))); (case side2 => exact (Kd.R_reads' HO407.out).2.1); rintro e w59 ⟨v411, rfl, ho0, hb⟩; refine ⟨_, rfl, ?_⟩; have n0_ := Aside0.mk (Kd.R_below (by (with_reducible repeat (first | apply Kd.R_alloc | apply Kd.R_drewN | apply Kd.R_drew)); exact HO407.out) hb); have n1_ := Aside0.mk (Kd.R_lower ho0 (below_size (by repeat (first | (with_reducible first | exact HB.out | apply below_alloc | apply pw_below_drewN | apply below_drew1) | exact HB.out)))); have n2_ := Aside0.mk (below_step (by repeat (first | (with_reducible first | exact HB.out | apply below_alloc | apply pw_below_drewN | apply below_drew1) | exact HB.out)) hb); clear HO407; clear HB; have HO407 := n0_; have HO412 := n1_; have HB := n2_; clear n0_ n1_ n2_; (try clear hb); (try clear hb2); (try clear hk); (try clear hi); (try clear ho0); obtain ⟨Ao60, co60, eo60⟩ := Kd.R_slice HO412.out; subst eo60) | (go_at_call 17; (with_reducible refine (slices_Equal_byte_byte.calls kj6 _ _ t409 _ _ l2 false _ ?side1 ?side2 ?side3 ?side4 A49.out).mono ?_); (case side1 => repeat (first | exact (Kd.R_reads' HO412.out).2.2 | (with_reducible refine Kd.C_alloc ?_ _) | (with_reducible refine Kd.C_drewN ?_ _) | (with_reducible refine Kd.C_drew ?_))); (case side2 => exact (Kd.R_reads' HO412.out).2.1); (case side3 => repeat (first | exact (Kd.C_below HR2.out HB.out) | (with_reducible refine Kd.C_alloc ?_ _) | (with_reducible refine Kd.C_drewN ?_ _) | (with_reducible refine Kd.C_drew ?_))); (case side4 => exact HC2.out); rintro e w' ⟨rfl, ⟨nd, rfl⟩⟩))
              go_ret
              exact ⟨by first | rfl | (simp [errW_none, errW_some] <;> rfl) | (simp [*, errW_none, errW_some] <;> rfl), by repeat (first | (with_reducible first | exact HB.out | apply below_alloc | apply pw_below_drewN | apply below_drew1) | exact HB.out)⟩
          · rw [if_neg c48] at H
            have c48b0 : (t410 == 0) = false := beq_eq_false_iff_ne.mpr c48
            have c48b1 : (t410 != 0) = true := bne_iff_ne.mpr c48
            obtain rfl := Option.some.inj H
            go_wp2_with (first | ((with_reducible refine gate_callee (f := 36) rfl ?_); refine goesL_ (some 98) rfl rfl Try.func36 (by kernel_rfl) rfl #[.slice A2 l2.length c2] rfl (by (try simp only [List.map_toArray, List.map_cons, List.map_nil]); first | done | rfl | (simp only [List.length_drop, List.length_take]; rfl)) ?_; (with_reducible refine (encode_DecodeTexts.calls kj6 _ _ l2 t404 t405 _ ?side1 ?side2 A44.out).mono ?_); (case side1 => repeat (first | exact (Kd.C_below HR2.out HB.out) | (with_reducible refine Kd.C_alloc ?_ _) | (with_reducible refine Kd.C_drewN ?_ _) | (with_reducible refine Kd.C_drew ?_))); (case side2 => exact HC2.out); rintro e w61 ⟨v406, rfl, ho0, hb⟩; refine ⟨_, rfl, ?_⟩; have n0_ := Aside0.mk (Kd.R_lower ho0 (below_size (by repeat (first | (with_reducible first | exact HB.out | apply below_alloc | apply pw_below_drewN | apply below_drew1) | exact HB.out)))); have n1_ := Aside0.mk (below_step (by repeat (first | (with_reducible first | exact HB.out | apply below_alloc | apply pw_below_drewN | apply below_drew1) | exact HB.out)) hb); clear HB; have HO407 := n0_; have HB := n1_; clear n0_ n1_; (try clear hb); (try clear hb2); (try clear hk); (try clear hi); (try clear ho0); have p408 : 0 ≤ (0 : Int) := (by omega); have q408 : 0 < (l2.length : Int) := of_decide_eq_true (by first | (with_reducible assumption) | assumption); obtain ⟨ad408, e408, hx408_0⟩ := Kd.at_int HR2.out 0 p408 q408; cases e408; have qi408 : (0 < l2.length) = True := eq_true (by omega); (try rw [show ((0 : Int)).toNat = 0 from rfl] at hx408_0); (try rw [Addr.add_zero'] at hx408_0); replace hx408_0 := (HB.out.cell (World.block_lt_of_cell? w _ hx408_0)).trans hx408_0; replace p408 := eq_true p408; replace q408 := eq_true q408; obtain ⟨Ao62, co62, eo62⟩ := Kd.R_slice HO407.out; subst eo62) | ((with_reducible refine gate_callee (f := 35) rfl ?_); refine goesL_ (some 115) rfl rfl Try.func35 (by kernel_rfl) rfl #[.int .i64 (wrap64 (rd l2 0)), .slice Ao62 t404.length co62] rfl (by (try simp only [List.map_toArray, List.map_cons, List.map_nil]); first | done | rfl | (simp only [List.length_drop, List.length_take]; rfl)) ?_; (with_reducible refine (encode_EncodeTexts.calls kj6 (wrap64 (rd l2 0)) _ _ t404 t409 t410 _ ?side1 ?side2 A47.out).mono ?_); (case side1 => repeat (first | exact (Kd.R_reads' HO407.out).2.2 | (with_reducible refine Kd.C_alloc ?_ _) | (with_reducible refine Kd.C_drewN ?_ _) | (with_reducible refine Kd.C_drew ?_))); (case side2 => exact (Kd.R_reads' HO407.out).2.1); rintro e w63 ⟨v411, rfl, ho0, hb⟩; refine ⟨_, rfl, ?_⟩; have n0_ := Aside0.mk (Kd.R_below (by (with_reducible repeat (first | apply Kd.R_alloc | apply Kd.R_drewN | apply Kd.R_drew)); exact HO407.out) hb); have n1_ := Aside0.mk (Kd.R_lower ho0 (below_size (by repeat (first | (with_reducible first | exact HB.out | apply below_alloc | apply pw_below_drewN | apply below_drew1) | exact HB.out)))); have n2_ := Aside0.mk (below_step (by repeat (first | (with_reducible first | exact HB.out | apply below_alloc | apply pw_below_drewN | apply below_drew1) | exact HB.out)) hb); clear HO407; clear HB; have HO407 := n0_; have HO412 := n1_; have HB := n2_; clear n0_ n1_ n2_; (try clear hb); (try clear hb2); (try clear hk); (try clear hi); (try clear ho0)))
            go_ret
            exact ⟨by first | rfl | (simp [errW_none, errW_some] <;> rfl) | (simp [*, errW_none, errW_some] <;> rfl), by repeat (first | (with_reducible first | exact HB.out | apply below_alloc | apply pw_below_drewN | apply below_drew1) | exact HB.out)⟩
        · rw [if_neg c46] at H
          exact absurd H (by simp)
      · rw [if_neg c45] at H
        have c45b0 : (t405 == 0) = false := beq_eq_false_iff_ne.mpr c45
        have c45b1 : (t405 != 0) = true := bne_iff_ne.mpr c45
        by_cases c64 : (t404.length : Int) = 0
        · rw [if_pos c64] at H
          have c64b0 : ((t404.length : Int) == 0) = true := beq_iff_eq.mpr c64
          have c64b1 : ((t404.length : Int) != 0) = false := bne_eq_false_iff_eq.mpr c64
          clear c64
          replace H := Option.bind_eq_some_iff.mp H
          obtain ⟨t415, A650, H⟩ := H
          replace H : (some t415) = some r := H
          have A65 := Aside0.mk A650
          clear A650
          obtain rfl := Option.some.inj H
          go_wp2_with (first | ((with_reducible refine gate_callee (f := 36) rfl ?_); refine goesL_ (some 98) rfl rfl Try.func36 (by kernel_rfl) rfl #[.slice A2 l2.length c2] rfl (by (try simp only [List.map_toArray, List.map_cons, List.map_nil]); first | done | rfl | (simp only [List.length_drop, List.length_take]; rfl)) ?_; (with_reducible refine (encode_DecodeTexts.calls kj6 _ _ l2 t404 t405 _ ?side1 ?side2 A44.out).mono ?_); (case side1 => repeat (first | exact (Kd.C_below HR2.out HB.out) | (with_reducible refine Kd.C_alloc ?_ _) | (with_reducible refine Kd.C_drewN ?_ _) | (with_reducible refine Kd.C_drew ?_))); (case side2 => exact HC2.out); rintro e w66 ⟨v406, rfl, ho0, hb⟩; refine ⟨_, rfl, ?_⟩; have n0_ := Aside0.mk (Kd.R_lower ho0 (below_size (by repeat (first | (with_reducible first | exact HB.out | apply below_alloc | apply pw_below_drewN | apply below_drew1) | exact HB.out)))); have n1_ := Aside0.mk (below_step (by repeat (first | (with_reducible first | exact HB.out | apply below_alloc | apply pw_below_drewN | apply below_drew1) | exact HB.out)) hb); clear HB; have HO407 := n0_; have HB := n1_; clear n0_ n1_; (try clear hb); (try clear hb2); (try clear hk); (try clear hi); (try clear ho0); obtain ⟨Ao67, co67, eo67⟩ := Kd.R_slice HO407.out; subst eo67) | (go_at_call 13; (with_reducible refine (peristylelaw2_awake.calls kj6  t415 _ A65.out).mono ?_); rintro e w68 ⟨rfl, hb⟩; have n0_ := Aside0.mk (Kd.R_below (by (with_reducible repeat (first | apply Kd.R_alloc | apply Kd.R_drewN | apply Kd.R_drew)); exact HO407.out) hb); have n1_ := Aside0.mk (below_step (by repeat (first | (with_reducible first | exact HB.out | apply below_alloc | apply pw_below_drewN | apply below_drew1) | exact HB.out)) hb); clear HO407; clear HB; have HO407 := n0_; have HB := n1_; clear n0_ n1_; (try clear hb); (try clear hb2); (try clear hk); (try clear hi)))
          go_ret
          exact ⟨by first | rfl | (simp [errW_none, errW_some] <;> rfl) | (simp [*, errW_none, errW_some] <;> rfl), by repeat (first | (with_reducible first | exact HB.out | apply below_alloc | apply pw_below_drewN | apply below_drew1) | exact HB.out)⟩
        · rw [if_neg c64] at H
          have c64b0 : ((t404.length : Int) == 0) = false := beq_eq_false_iff_ne.mpr c64
          have c64b1 : ((t404.length : Int) != 0) = true := bne_iff_ne.mpr c64
          have c64b2 : ¬ (t404 = []) := fun h_ => c64 (by rw [h_]; rfl)
          obtain rfl := Option.some.inj H
          go_wp2_with (first | ((with_reducible refine gate_callee (f := 36) rfl ?_); refine goesL_ (some 98) rfl rfl Try.func36 (by kernel_rfl) rfl #[.slice A2 l2.length c2] rfl (by (try simp only [List.map_toArray, List.map_cons, List.map_nil]); first | done | rfl | (simp only [List.length_drop, List.length_take]; rfl)) ?_; (with_reducible refine (encode_DecodeTexts.calls kj6 _ _ l2 t404 t405 _ ?side1 ?side2 A44.out).mono ?_); (case side1 => repeat (first | exact (Kd.C_below HR2.out HB.out) | (with_reducible refine Kd.C_alloc ?_ _) | (with_reducible refine Kd.C_drewN ?_ _) | (with_reducible refine Kd.C_drew ?_))); (case side2 => exact HC2.out); rintro e w69 ⟨v406, rfl, ho0, hb⟩; refine ⟨_, rfl, ?_⟩; have n0_ := Aside0.mk (Kd.R_lower ho0 (below_size (by repeat (first | (with_reducible first | exact HB.out | apply below_alloc | apply pw_below_drewN | apply below_drew1) | exact HB.out)))); have n1_ := Aside0.mk (below_step (by repeat (first | (with_reducible first | exact HB.out | apply below_alloc | apply pw_below_drewN | apply below_drew1) | exact HB.out)) hb); clear HB; have HO407 := n0_; have HB := n1_; clear n0_ n1_; (try clear hb); (try clear hb2); (try clear hk); (try clear hi); (try clear ho0); obtain ⟨Ao70, co70, eo70⟩ := Kd.R_slice HO407.out; subst eo70))
          go_ret
          exact ⟨by first | rfl | (simp [errW_none, errW_some] <;> rfl) | (simp [*, errW_none, errW_some] <;> rfl), by repeat (first | (with_reducible first | exact HB.out | apply below_alloc | apply pw_below_drewN | apply below_drew1) | exact HB.out)⟩

end Go.Proofs.Ythhdihnaicggiaa.C
