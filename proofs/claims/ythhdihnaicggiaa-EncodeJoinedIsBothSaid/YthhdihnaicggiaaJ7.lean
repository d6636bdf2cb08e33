/- Printed by a program of this session (wip/tools/printh.py over the kit's printer): Lean functions that answer as the Go functions do, with the proofs of it. No conditions beyond those in each theorem. -/
import Derived.Test.YthhdihnaicggiaaJ0
import Derived.Test.YthhdihnaicggiaaJ2
import Derived.Test.YthhdihnaicggiaaJ4
import Derived.Test.YthhdihnaicggiaaJ6
namespace Go.Proofs.Ythhdihnaicggiaa.J
open Go.RowKit Go.Proofs.YthhdihnaicggiaaW.PrintWords Go.Proofs.YthhdihnaicggiaaW.PrintLast Go.Proofs.YthhdihnaicggiaaW.PrintMore
attribute [local go_sem] max2_int min2_int max_two min_two max_three min_three max_four min_four   -- for this text's walks alone
set_option linter.unusedVariables false
set_option linter.unusedSimpArgs false

/-! ### encode_reader_dict: function 113 -/
mutual
def encode_reader_dict.j0 : Nat → Int → Int → Bool → List Int → Bool → Option (List Int × List Int × Bool)
 | 0, _, _, _, _, _ => none
 | k + 1, x1, x5, x19, x1000, x1001 => if x19 = true then (some (([] : List Int), x1000, true)) else ((encode_reader_number.f k x1000 x1001).bind fun bt264 => (encode_reader_dict.l0 k x1 x5 (([bt264.1] : List Int)) bt264.2.1 bt264.2.2))
def encode_reader_dict.j2 : Nat → Int → Int → List Int → List Int → Bool → Option (List Int × List Int × Bool)
 | 0, _, _, _, _, _ => none
 | k + 1, x1, x5, x6, x1000, x1001 => if x1001 = true then (some (([] : List Int), x1000, x1001)) else ((encode_widthOf.f (wrap64 (x5 - 1))).bind fun t277 => ((encode_reader_packed.f k x1000 x1001 x1 t277).bind fun bt278 => (encode_reader_dict.l1 k x5 x6 bt278.1 (bt278.1.length : Int) 0 bt278.2.1 bt278.2.2)))
def encode_reader_dict.l1 : Nat → Int → List Int → List Int → Int → Int → List Int → Bool → Option (List Int × List Int × Bool)
 | 0, _, _, _, _, _, _, _ => none
 | k + 1, x5, x6, x7, x60, x61, x1000, x1001 => if x61 < x60 then (if 0 ≤ x61 then (if x61 < (x7.length : Int) then (if (rd x7 x61) ≥ x5 then (some (([] : List Int), x1000, true)) else (if 0 ≤ (rd x7 x61) then (if (rd x7 x61) < (x6.length : Int) then (encode_reader_dict.l1 k x5 x6 (x7.set (x61 : Int).toNat (rd x6 (rd x7 x61))) x60 (wrap64 (x61 + 1)) x1000 x1001) else (none)) else (none))) else (none)) else (none)) else (some (x7, x1000, x1001))
def encode_reader_dict.l0 : Nat → Int → Int → List Int → List Int → Bool → Option (List Int × List Int × Bool)
 | 0, _, _, _, _, _ => none
 | k + 1, x1, x5, x6, x1000, x1001 => if (x6.length : Int) < x5 then (if x1001 = true then (encode_reader_dict.j2 k x1 x5 x6 x1000 x1001) else (if 0 ≤ (wrap64 ((x6.length : Int) - 1)) then (if (wrap64 ((x6.length : Int) - 1)) < (x6.length : Int) then ((encode_reader_count.f k x1000 x1001).bind fun bt271 => (if x6.length < 17592186044416 then (encode_reader_dict.l0 k x1 x5 (x6 ++ [wrap64 ((rd x6 (wrap64 ((x6.length : Int) - 1))) + bt271.1)]) bt271.2.1 bt271.2.2) else (none))) else (none)) else (none))) else (encode_reader_dict.j2 k x1 x5 x6 x1000 x1001)
end
def encode_reader_dict.f (k : Nat) (s0_0 : List Int) (s0_1 : Bool) (a1 : Int) : Option (List Int × List Int × Bool) := (encode_reader_long.f k s0_0 s0_1).bind fun bt261 => (if bt261.1 = 0 then (encode_reader_dict.j0 k a1 bt261.1 true bt261.2.1 bt261.2.2) else (encode_reader_dict.j0 k a1 bt261.1 bt261.2.2 bt261.2.1 bt261.2.2))
theorem encode_reader_dict.mono_l : ∀ k, (∀ y0 y1 y2 y3 y4, LeO (encode_reader_dict.j0 k y0 y1 y2 y3 y4) (encode_reader_dict.j0 (k + 1) y0 y1 y2 y3 y4)) ∧ (∀ y0 y1 y2 y3 y4, LeO (encode_reader_dict.j2 k y0 y1 y2 y3 y4) (encode_reader_dict.j2 (k + 1) y0 y1 y2 y3 y4)) ∧ (∀ y0 y1 y2 y3 y4 y5 y6, LeO (encode_reader_dict.l1 k y0 y1 y2 y3 y4 y5 y6) (encode_reader_dict.l1 (k + 1) y0 y1 y2 y3 y4 y5 y6)) ∧ (∀ y0 y1 y2 y3 y4, LeO (encode_reader_dict.l0 k y0 y1 y2 y3 y4) (encode_reader_dict.l0 (k + 1) y0 y1 y2 y3 y4))
 | 0 => ⟨fun _ _ _ _ _ r h => by simp [encode_reader_dict.j0] at h, fun _ _ _ _ _ r h => by simp [encode_reader_dict.j2] at h, fun _ _ _ _ _ _ _ r h => by simp [encode_reader_dict.l1] at h, fun _ _ _ _ _ r h => by simp [encode_reader_dict.l0] at h⟩
 | k + 1 => by
  obtain ⟨ih0, ih1, ih2, ih3⟩ := encode_reader_dict.mono_l k
  refine ⟨?_, ?_, ?_, ?_⟩ <;> intros
  all_goals (first | unfold encode_reader_dict.j0 | unfold encode_reader_dict.j2 | unfold encode_reader_dict.l1 | unfold encode_reader_dict.l0)
  all_goals
   repeat' first
   | (with_reducible exact ih1 _ _ _ _ _)
   | (with_reducible exact ih2 _ _ _ _ _ _ _)
   | (with_reducible exact ih3 _ _ _ _ _)
   | (with_reducible exact encode_reader_count.mono _ _ _)
   | (with_reducible exact encode_reader_number.mono _ _ _)
   | (with_reducible exact encode_reader_packed.mono _ _ _ _ _)
   | (with_reducible exact LeO.refl _)
   | (with_reducible refine LeO.ite ?_ ?_)
   | (with_reducible refine LeO.bind ?_ (fun _ => ?_))
theorem encode_reader_dict.mono : ∀ a0 a1 a2 k, LeO (encode_reader_dict.f k a0 a1 a2) (encode_reader_dict.f (k + 1) a0 a1 a2) := by
 intro a0 a1 a2 k
 obtain ⟨ih0, ih1, ih2, ih3⟩ := encode_reader_dict.mono_l k
 unfold encode_reader_dict.f
 repeat' first
  | (with_reducible exact ih0 _ _ _ _ _)
  | (with_reducible exact encode_reader_long.mono _ _ _)
  | (with_reducible refine LeO.ite ?_ ?_)
  | (with_reducible refine LeO.bind ?_ (fun _ => ?_))
def encode_reader_dict.T7 : Bool × List (List Nat × List Nat) := (true, [([], []), ([], []), ([], []), ([2], [2]), ([3], [3]), ([1, 4], [1, 4]), ([5], [5]), ([], []), ([7], [7]), ([6, 8], [6, 8]), ([9], [9]), ([0, 10, 8], [0, 10]), ([11, 11, 0, 1, 2, 3, 4, 5, 6, 7, 8, 9, 10, 11], [0, 1, 2, 11])])
def encode_reader_dict.B7 : List Nat := [0, 0, 0, 4, 12, 30, 62, 0, 128, 510, 1022, 2047, 4095]
theorem encode_reader_dict.tab7 : rtab .any (opsOf Try.f113 7) = encode_reader_dict.T7 := by kernel_rfl
theorem encode_reader_dict.bits7 : waitsOk encode_reader_dict.T7.2 encode_reader_dict.B7 = true := by kernel_rfl
set_option maxHeartbeats 8000000 in
set_option maxRecDepth 100000 in
theorem encode_reader_dict.calls (k : Nat) (g : Nat) (s0_0 : List Int) (s0_1 : Bool) (a1 : Int) (r1 : List Int) (r2 : List Int) (r3 : Bool) (w0 w : World) (hI : IsS71 w0 w g s0_0 s0_1) (hB : Below w0.heap.size w0 w) (h : encode_reader_dict.f k s0_0 s0_1 a1 = some (r1, r2, r3)) :
 Calls Try.prog 113 #[.pointer (some ⟨g, 0, none⟩), .int .i64 a1] w fun e w' => ∃ v0_ : Value, e = .returned (v0_) ∧ Kd.R (Kd.int .i64) 3 w' w.heap.size (fun _ => True) v0_ r1 ∧ IsS71 w0 w' g r2 r3 ∧ Below w0.heap.size w0 w' ∧ KeepBut w w' g none := by
 have HI0 := Aside0.mk hI
 have HK := Aside0.mk (KeepBut.refl w g none)
 have HL := Aside0.mk hB.size
 clear hI
 have HW0 := Aside0.mk hB.size
 have HB := Aside0.mk hB
 have HBZ := Aside0.mk hB
 clear hB
 have H : ((encode_reader_long.f k s0_0 s0_1).bind fun bt261 => (if bt261.1 = 0 then (encode_reader_dict.j0 k a1 bt261.1 true bt261.2.1 bt261.2.2) else (encode_reader_dict.j0 k a1 bt261.1 bt261.2.2 bt261.2.1 bt261.2.2))) = some (r1, r2, r3) := h
 clear h
 replace H := Option.bind_eq_some_iff.mp H
 obtain ⟨⟨t261, t262, t263⟩, A30, H⟩ := H
 replace H : (if t261 = 0 then (encode_reader_dict.j0 k a1 t261 true t262 t263) else (encode_reader_dict.j0 k a1 t261 t263 t262 t263)) = some (r1, r2, r3) := H
 have A3 := Aside0.mk A30
 clear A30
 have HC4 := Aside0.mk H
 clear H
 go_enter Try.func113, Try.ntmps113
 go_upto_region 2 with (first | ((with_reducible refine gate_callee (f := 79) rfl ?_); refine goesL_ (some 11) rfl rfl Try.func79 (by kernel_rfl) rfl #[.pointer (some ⟨g, 0, none⟩)] rfl (by (try simp only [List.map_toArray, List.map_cons, List.map_nil]); rfl) ?_; (with_reducible refine (encode_reader_long.calls k g s0_0 s0_1 t261 t262 t263 w0 _ ?side1 ?side2 A3.out).mono ?_); (case side1 => exact HI0.out); (case side2 => exact HB.out); rintro e w5 ⟨rfl, hi, hb, hk⟩; refine ⟨_, rfl, ?_⟩; have n0_ := Aside0.mk (KeepBut.trans (by exact HK.out) hk (.inl rfl)); have n1_ := Aside0.mk (hb); have n2_ := Aside0.mk (hi); clear HK; clear HB; clear HI0; have HK := n0_; have HB := n1_; have HI0 := n2_; clear n0_ n1_ n2_; (try clear hb); (try clear hk); (try clear hi)))
 (try simp only [Act.put, List.setIfInBounds_toArray, List.set_cons_zero, List.set_cons_succ])
 go_cut [19] (fun v19 wc => ∃ (kq : Nat) (x19_3 : Bool), v19 = .bool x19_3 ∧ Aside0 (encode_reader_dict.j0 kq a1 t261 x19_3 t262 t263 = some (r1, r2, r3)) ∧ Aside0 (kq ≤ k) ∧ Aside0 (IsS71 w0 wc g t262 t263) ∧ Aside0 (KeepBut w wc g none) ∧ Aside0 (Below w0.heap.size w0 wc))
 case first =>
  have H := HC4.out
  clear HC4
  by_cases c6 : t261 = 0
  ·rw [if_pos c6] at H
   have c6b0 : (t261 == 0) = true := beq_iff_eq.mpr c6
   have c6b1 : (t261 != 0) = false := bne_eq_false_iff_eq.mpr c6
   clear c6
   (skip)
   (try rw [c6b1])
   have H' := Aside0.mk H
   clear H
   go_wp2
   go_meet
   case rel => exact ⟨_, (true), (by rfl), H', ⟨by omega⟩, ⟨by exact HI0.out⟩, ⟨by exact HK.out⟩, ⟨by exact HB.out⟩⟩
  ·rw [if_neg c6] at H
   have c6b0 : (t261 == 0) = false := beq_eq_false_iff_ne.mpr c6
   have c6b1 : (t261 != 0) = true := bne_iff_ne.mpr c6
   (skip)
   (try rw [c6b1])
   have H' := Aside0.mk H
   clear H
   obtain ⟨ASz7_0, cSz7_0, HGz7, hgz7, HSz7_0⟩ := HI0.out
   have hcz7_0 := cellS71_0 HGz7
   have hcz7_1 := cellS71_1 HGz7
   have hfz7_0 := blk_frozen HGz7 0
   have hfz7_1 := blk_frozen HGz7 1
   have HCSz7_0 := HSz7_0.1
   replace HSz7_0 := HSz7_0.2
   clear HGz7 hgz7
   go_wp2
   go_meet
   case rel => exact ⟨_, (t263), (by rfl), H', ⟨by omega⟩, ⟨by exact HI0.out⟩, ⟨by exact HK.out⟩, ⟨by exact HB.out⟩⟩
 case rest =>
  clear HC4
  obtain ⟨kq, x19_3, rfl, HA, HJ3, HI0, HK, HB⟩ := hcut
  cases kq with
  | zero => exact absurd HA.out (by simp [encode_reader_dict.j0])
  | succ kj3 =>
   have H := HA.out
   clear HA
   simp only [encode_reader_dict.j0] at H
   by_cases c8 : x19_3 = true
   ·subst c8
    have H1 : (some (([] : List Int), t262, true)) = some (r1, r2, r3) := by rw [if_pos rfl] at H; exact H
    clear H
    have H := H1
    clear H1
    simp only [Option.some.injEq, Prod.mk.injEq] at H
    obtain ⟨rfl, rfl, rfl⟩ := H
    obtain ⟨ASz9_0, cSz9_0, HGz9, hgz9, HSz9_0⟩ := HI0.out
    have hcz9_0 := cellS71_0 HGz9
    have hcz9_1 := cellS71_1 HGz9
    have hfz9_0 := blk_frozen HGz9 0
    have hfz9_1 := blk_frozen HGz9 1
    have HCSz9_0 := HSz9_0.1
    replace HSz9_0 := HSz9_0.2
    clear HGz9 hgz9
    go_wp2
    go_ret
    exact ⟨_, by rfl, by exact Kd.R_nil _ _ _ _ _, by repeat ((with_reducible first | exact HI0.out | apply IsS71.set_1)), by repeat ((with_reducible first | exact HB.out | refine below_set ?_ (IsS71.ge HI0.out))), by repeat ((with_reducible first | exact HK.out | apply KeepBut.set_ ))⟩
   ·replace c8 := Bool.eq_false_iff.mpr c8
    subst c8
    have H1 : ((encode_reader_number.f kj3 t262 t263).bind fun bt264 => (encode_reader_dict.l0 kj3 a1 t261 (([bt264.1] : List Int)) bt264.2.1 bt264.2.2)) = some (r1, r2, r3) := by rw [if_neg (show ¬ (false = true) by decide)] at H; exact H
    clear H
    have H := H1
    clear H1
    replace H := Option.bind_eq_some_iff.mp H
    obtain ⟨⟨t264, t265, t266⟩, A100, H⟩ := H
    replace H : (encode_reader_dict.l0 kj3 a1 t261 (([t264] : List Int)) t265 t266) = some (r1, r2, r3) := H
    have A10 := Aside0.mk A100
    clear A100
    obtain ⟨y267, hy267⟩ : ∃ y_ : List Int, y_ = (([t264] : List Int)) := ⟨_, rfl⟩
    replace H : (encode_reader_dict.l0 kj3 a1 t261 y267 t265 t266) = some (r1, r2, r3) := by (rw [hy267]; with_reducible exact H)
    have Ny267 := Aside0.mk hy267
    clear hy267
    have HC11 := Aside0.mk H
    clear H
    go_upto_block 0 with (first | ((with_reducible refine gate_callee (f := 111) rfl ?_); refine goesL_ (some 24) rfl rfl Try.func111 (by kernel_rfl) rfl #[.pointer (some ⟨g, 0, none⟩)] rfl (by (try simp only [List.map_toArray, List.map_cons, List.map_nil]); rfl) ?_; (with_reducible refine (encode_reader_number.calls kj3 g t262 t263 t264 t265 t266 w0 _ ?side1 ?side2 A10.out).mono ?_); (case side1 => exact HI0.out); (case side2 => exact HB.out); rintro e w12 ⟨rfl, hi, hb, hk⟩; refine ⟨_, rfl, ?_⟩; have n0_ := Aside0.mk (KeepBut.trans (by exact HK.out) hk (.inl rfl)); have n1_ := Aside0.mk (hb); have n2_ := Aside0.mk (hi); clear HK; clear HB; clear HI0; have HK := n0_; have HB := n1_; have HI0 := n2_; clear n0_ n1_ n2_; (try clear hb); (try clear hk); (try clear hi)) | ((with_reducible refine gate_dst (N := 25) rfl ?_); refine Kd.R_lit (Kd.int .i64) _ 3 ?hg (N := 25) ?hd (xs := ([t264] : List Int)) (inner := [.int .i64 t264]) (ok := fun _ => True) (okp := fun _ => True) ?hr ?hp (fun _ hk => hk) trivial (Below.refl _ _) (Nat.le_refl _) (by simp) ?_; (case hd => rfl); (case hg => rfl); (case hr => (go_simp; done)); (case hp => exact (Reps.one (show Kd.M (Kd.int .i64) _ _ _ t264 [.int .i64 t264] from rfl) (Reps.none _ _))); intro v268 w13 ho14 hb hg_ hnew_; clear hg_ hnew_; (rw [← Ny267.out] at ho14); have n0_ := Aside0.mk (Kd.R_lower ho14 (keep_size (w := w) (g := g) (row := none) (by exact HK.out))); have n1_ := Aside0.mk (IsS71.below (by exact HI0.out) hb); have n2_ := Aside0.mk (KeepBut.trans (by exact HK.out) (KeepBut.of_below hb g none) (.inl rfl)); have n3_ := Aside0.mk (below_step (by exact HB.out) hb); clear HI0; clear HK; clear HB; have HO269 := n0_; have HI0 := n1_; have HK := n2_; have HB := n3_; clear n0_ n1_ n2_ n3_; clear hb ho14))
    (try simp only [Act.put, List.setIfInBounds_toArray, List.set_cons_zero, List.set_cons_succ])
    go_cut [6] (fun v6 wc => ∃ (kq : Nat) (x6_10 : List Int) (x1000_10 : List Int) (x1001_10 : Bool), Aside0 (encode_reader_dict.j2 kq a1 t261 x6_10 x1000_10 x1001_10 = some (r1, r2, r3)) ∧ Aside0 (kq ≤ kj3) ∧ Aside0 (Kd.R (Kd.int .i64) 3 wc w.heap.size (fun _ => True) v6 x6_10) ∧ Aside0 (IsS71 w0 wc g x1000_10 x1001_10) ∧ Aside0 (KeepBut w wc g none) ∧ Aside0 (Below w0.heap.size w0 wc))
    case first =>
     have H := HC11.out
     clear HC11
     have H' := Aside0.mk H
     clear H
     go_wp2
     go_loopg [6] kj3 (fun kq v6 w' => ∃ (x6_2 : List Int) (x1000_2 : List Int) (x1001_2 : Bool), Aside0 (encode_reader_dict.l0 kq a1 t261 x6_2 x1000_2 x1001_2 = some (r1, r2, r3)) ∧ Aside0 (kq ≤ kj3) ∧ Aside0 (Kd.R (Kd.int .i64) 3 w' w.heap.size (fun _ => True) v6 x6_2) ∧ Aside0 (IsS71 w0 w' g x1000_2 x1001_2) ∧ Aside0 (KeepBut w w' g none) ∧ Aside0 (Below w0.heap.size w0 w'))
     case atStart => exact ⟨(y267), (t265), (t266), H', ⟨Nat.le_refl _⟩, ⟨by exact HO269.out⟩, ⟨by exact HI0.out⟩, ⟨by exact HK.out⟩, ⟨by exact HB.out⟩⟩
     case round =>
      clear H'
      obtain ⟨x6_2, x1000_2, x1001_2, HA, HK2, HO_6, HI0, HK, HB⟩ := hrel
      cases gk with
      | zero => exact absurd HA.out (by simp [encode_reader_dict.l0])
      | succ k2 =>
       have H := HA.out
       clear HA
       simp only [encode_reader_dict.l0] at H
       by_cases c15 : (x6_2.length : Int) < t261
       ·rw [if_pos c15] at H
        have c15b0 : decide ((x6_2.length : Int) < t261) = true := decide_eq_true c15
        clear c15
        (skip)
        (try rw [c15b1])
        by_cases c16 : x1001_2 = true
        ·subst c16
         have H1 : (encode_reader_dict.j2 k2 a1 t261 x6_2 x1000_2 true) = some (r1, r2, r3) := by rw [if_pos rfl] at H; exact H
         clear H
         have H := H1
         clear H1
         have H' := Aside0.mk H
         clear H
         obtain ⟨Ao17, co17, eo17⟩ := Kd.R_slice HO_6.out
         subst eo17
         obtain ⟨ASz18_0, cSz18_0, HGz18, hgz18, HSz18_0⟩ := HI0.out
         have hcz18_0 := cellS71_0 HGz18
         have hcz18_1 := cellS71_1 HGz18
         have hfz18_0 := blk_frozen HGz18 0
         have hfz18_1 := blk_frozen HGz18 1
         have HCSz18_0 := HSz18_0.1
         replace HSz18_0 := HSz18_0.2
         clear HGz18 hgz18
         go_wp2
         go_meet
         case rel => exact ⟨_, (x6_2), (x1000_2), (true), H', ⟨by have := HJ3.out; have := HK2.out; omega⟩, ⟨by exact HO_6.out⟩, ⟨by exact HI0.out⟩, ⟨by exact HK.out⟩, ⟨by exact HB.out⟩⟩
        ·replace c16 := Bool.eq_false_iff.mpr c16
         subst c16
         have H1 : (if 0 ≤ (wrap64 ((x6_2.length : Int) - 1)) then (if (wrap64 ((x6_2.length : Int) - 1)) < (x6_2.length : Int) then ((encode_reader_count.f k2 x1000_2 false).bind fun bt271 => (if x6_2.length < 17592186044416 then (encode_reader_dict.l0 k2 a1 t261 (x6_2 ++ [wrap64 ((rd x6_2 (wrap64 ((x6_2.length : Int) - 1))) + bt271.1)]) bt271.2.1 bt271.2.2) else (none))) else (none)) else (none)) = some (r1, r2, r3) := by rw [if_neg (show ¬ (false = true) by decide)] at H; exact H
         clear H
         have H := H1
         clear H1
         obtain ⟨ji19, hji19⟩ : ∃ j_ : Int, (wrap64 ((x6_2.length : Int) - 1)) = j_ := ⟨_, rfl⟩
         replace H : (if 0 ≤ (ji19) then (if (ji19) < (x6_2.length : Int) then ((encode_reader_count.f k2 x1000_2 false).bind fun bt271 => (if x6_2.length < 17592186044416 then (encode_reader_dict.l0 k2 a1 t261 (x6_2 ++ [wrap64 ((rd x6_2 (ji19)) + bt271.1)]) bt271.2.1 bt271.2.2) else (none))) else (none)) else (none)) = some (r1, r2, r3) := by (rw [hji19] at H; exact H)
         have hji19w : (IntKind.i64.wrap ((x6_2.length : Int) - 1)) = ji19 := (i64_w _).trans hji19
         by_cases c20 : 0 ≤ (ji19)
         ·rw [if_pos c20] at H
          have c20b0 : decide (0 ≤ (ji19)) = true := decide_eq_true c20
          clear c20
          by_cases c21 : (ji19) < (x6_2.length : Int)
          ·rw [if_pos c21] at H
           have c21b0 : decide ((ji19) < (x6_2.length : Int)) = true := decide_eq_true c21
           clear c21
           replace H := Option.bind_eq_some_iff.mp H
           obtain ⟨⟨t271, t272, t273⟩, A220, H⟩ := H
           replace H : (if x6_2.length < 17592186044416 then (encode_reader_dict.l0 k2 a1 t261 (x6_2 ++ [wrap64 ((rd x6_2 (ji19)) + t271)]) t272 t273) else (none)) = some (r1, r2, r3) := H
           have A22 := Aside0.mk A220
           clear A220
           by_cases c23 : x6_2.length < 17592186044416
           ·rw [if_pos c23] at H
            have LMc23 := Aside0.mk c23
            clear c23
            obtain ⟨y274, hy274⟩ : ∃ y_ : List Int, y_ = (x6_2 ++ [wrap64 ((rd x6_2 (ji19)) + t271)]) := ⟨_, rfl⟩
            replace H : (encode_reader_dict.l0 k2 a1 t261 y274 t272 t273) = some (r1, r2, r3) := by (rw [hy274]; with_reducible exact H)
            have Ny274 := Aside0.mk hy274
            clear hy274
            have H' := Aside0.mk H
            clear H
            obtain ⟨Ao24, co24, eo24⟩ := Kd.R_slice HO_6.out
            subst eo24
            obtain ⟨ASz25_0, cSz25_0, HGz25, hgz25, HSz25_0⟩ := HI0.out
            have hcz25_0 := cellS71_0 HGz25
            have hcz25_1 := cellS71_1 HGz25
            have hfz25_0 := blk_frozen HGz25 0
            have hfz25_1 := blk_frozen HGz25 1
            have HCSz25_0 := HSz25_0.1
            replace HSz25_0 := HSz25_0.2
            clear HGz25 hgz25
            try go_wp2
            have n0_ := Aside0.mk (Kd.R_drew HO_6.out)
            have n1_ := Aside0.mk (IsS71.drew HI0.out)
            have n2_ := Aside0.mk (keep_drew HK.out)
            have n3_ := Aside0.mk (below_drew1 HB.out)
            clear HO_6
            clear HI0
            clear HK
            clear HB
            have HO_6 := n0_
            have HI0 := n1_
            have HK := n2_
            have HB := n3_
            clear n0_ n1_ n2_ n3_
            have p270 : 0 ≤ ((ji19) : Int) := of_decide_eq_true (by (with_reducible assumption))
            have q270 : (ji19) < (x6_2.length : Int) := of_decide_eq_true (by (with_reducible assumption))
            obtain ⟨ad270, e270, hx270_0⟩ := Kd.at_int (Kd.R_reads' HO_6.out).2.2 (ji19) p270 q270
            cases e270
            replace p270 := eq_true p270
            replace q270 := eq_true q270
            refine start_ (n := 13) (S := fun w' => w'.cell? (ad270.add ((ji19)).toNat) = some (.int .i64 (rd x6_2 (ji19)))) (ds := [10, 11]) #[false, false, false, false, false, false, false, false, false, false, false, false, false] (by kernel_rfl) rfl rfl (hx270_0) (fun hHeld => ?_); refine with_tabW encode_reader_dict.tab7 encode_reader_dict.bits7 (fun HT_ HW_ => ?_)
            generalize wr.drew = w26 at HO_6 HI0 HK HB hx270_0 hHeld ⊢
            refine pure_ (i := 0) (N := some 37) (v := ?_) (a' := ?_) #[true, false, false, false, false, false, false, false, false, false, false, false, false] rfl rfl (any_of HT_.out (by kernel_rfl)) (fun _ _ _ h => h) (Or.inl ⟨by rfl, ?_⟩) ?_ ?_
            rotate_left
            ·intro w'
             go_simp
             with_reducible rfl
            rotate_left
            ·simp only [Act.put, List.setIfInBounds_toArray, List.set_cons_zero, List.set_cons_succ, i64_w, i32_w]
             rfl
            refine pure_ (i := 1) (N := some 38) (v := ?_) (a' := ?_) #[true, true, false, false, false, false, false, false, false, false, false, false, false] rfl rfl (any_of HT_.out (by kernel_rfl)) (fun _ _ _ h => h) (Or.inl ⟨by rfl, ?_⟩) ?_ ?_
            rotate_left
            ·intro w'
             go_simp
             with_reducible rfl
            rotate_left
            ·simp only [Act.put, List.setIfInBounds_toArray, List.set_cons_zero, List.set_cons_succ, i64_w, i32_w]
             rfl
            refine pure_ (i := 2) (N := some 39) (v := ?_) (a' := ?_) #[true, true, true, false, false, false, false, false, false, false, false, false, false] rfl rfl (any_of HT_.out (by kernel_rfl)) (fun _ _ _ h => h) (Or.inl ⟨by rfl, ?_⟩) ?_ ?_
            rotate_left
            ·intro w'
             go_simp
             with_reducible rfl
            rotate_left
            ·simp only [Act.put, List.setIfInBounds_toArray, List.set_cons_zero, List.set_cons_succ, i64_w, i32_w]
             rfl
            refine pure_ (i := 3) (N := some 40) (v := ?_) (a' := ?_) #[true, true, true, true, false, false, false, false, false, false, false, false, false] rfl rfl (any_of HT_.out (by kernel_rfl)) (fun _ _ _ h => h) (Or.inl ⟨by rfl, ?_⟩) ?_ ?_
            rotate_left
            ·intro w'
             go_simp
             with_reducible rfl
            rotate_left
            ·simp only [Act.put, List.setIfInBounds_toArray, List.set_cons_zero, List.set_cons_succ, i64_w, i32_w]
             rfl
            refine pure_ (i := 4) (N := some 41) (v := ?_) (a' := ?_) #[true, true, true, true, true, false, false, false, false, false, false, false, false] rfl rfl (any_of HT_.out (by kernel_rfl)) (fun _ _ _ h => h) (Or.inl ⟨by rfl, ?_⟩) ?_ ?_
            rotate_left
            ·intro w'
             go_simp
             with_reducible rfl
            rotate_left
            ·simp only [Act.put, List.setIfInBounds_toArray, List.set_cons_zero, List.set_cons_succ, i64_w, i32_w]
             rfl
            refine pure_ (i := 5) (N := some 42) (v := ?_) (a' := ?_) #[true, true, true, true, true, true, false, false, false, false, false, false, false] rfl rfl (any_of HT_.out (by kernel_rfl)) (fun _ _ _ h => h) (Or.inl ⟨by rfl, ?_⟩) ?_ ?_
            rotate_left
            ·intro w'
             go_simp
             with_reducible rfl
            rotate_left
            ·simp only [Act.put, List.setIfInBounds_toArray, List.set_cons_zero, List.set_cons_succ, i64_w, i32_w]
             rfl
            refine pure_ (i := 7) (N := some 44) (v := ?_) (a' := ?_) #[true, true, true, true, true, true, false, true, false, false, false, false, false] rfl rfl (any_of HT_.out (by kernel_rfl)) (fun _ _ _ h => h) (Or.inl ⟨by rfl, ?_⟩) ?_ ?_
            rotate_left
            ·intro w'
             go_simp
             with_reducible rfl
            rotate_left
            ·simp only [Act.put, List.setIfInBounds_toArray, List.set_cons_zero, List.set_cons_succ, i64_w, i32_w]
             rfl
            refine take_ (i := 6) (N := some 43) (v := ?_) (a' := ?_) #[true, true, true, true, true, true, true, true, false, false, false, false, false] rfl rfl (take_ofW HT_.out HW_.out (by kernel_rfl)) (fun _ _ _ h => h) (Or.inl ⟨by rfl, ?_⟩) hHeld ?_ ?_
            rotate_left
            ·intro w' s0
             go_simp
             with_reducible rfl
            rotate_left
            ·simp only [Act.put, List.setIfInBounds_toArray, List.set_cons_zero, List.set_cons_succ, i64_w, i32_w]
             rfl
            refine one_ (i := 8) (N := some 45) #[true, true, true, true, true, true, true, true, true, false, false, false, false] rfl rfl (one_of HT_.out (by kernel_rfl)) (by decide) (fun K hK => ?_)
            refine goes_ Try.func57 (by kernel_rfl) rfl #[.pointer (some ⟨g, 0, none⟩)] (by rfl) rfl rfl (by (try simp only [List.map_toArray, List.map_cons, List.map_nil]); rfl) ?_
            with_reducible refine (encode_reader_count.calls k2 g x1000_2 false t271 t272 t273 w0 _ ?side1 ?side2 A22.out).mono ?_
            (case side1 => exact HI0.out)
            (case side2 => exact HB.out)
            rintro e w27 ⟨rfl, hi, hb, hk⟩
            have HS0_ := keep_cell hk (hHeld) (by (rw [add_block]; exact Kd.own_blk (IsS71.own_ne HI0.out HO_6.out (by decide))))
            refine ⟨_, rfl, ?_⟩
            have n0_ := Aside0.mk (Kd.R_mono (Kd.R_keep (IsS71.apart (show IsS71 w0 _ g x1000_2 false from by exact HI0.out) (by exact HO_6.out) (by decide)) hk (fun _ h => h.2)) (fun _ h => h.1))
            have n1_ := Aside0.mk (KeepBut.trans (by exact HK.out) hk (.inl rfl))
            have n2_ := Aside0.mk (hb)
            have n3_ := Aside0.mk (hi)
            clear HO_6
            clear HK
            clear HB
            clear HI0
            have HO_6 := n0_
            have HK := n1_
            have HB := n2_
            have HI0 := n3_
            clear n0_ n1_ n2_ n3_
            (try clear hb)
            (try clear hb2)
            (try clear hk)
            (try clear hi)
            refine hK.out _ _ (HS0_) (fun hHeld => ?_)
            clear hK K
            refine norm_ (a' := ?_) ?_ ?_
            rotate_left
            ·show Act.put _ (some 45) _ = _
             simp only [Act.put, List.setIfInBounds_toArray, List.set_cons_zero, List.set_cons_succ, i64_w, i32_w]
             rfl
            refine pure_ (i := 9) (N := some 46) (v := ?_) (a' := ?_) #[true, true, true, true, true, true, true, true, true, true, false, false, false] rfl rfl (any_of HT_.out (by kernel_rfl)) (fun _ _ _ h => h) (Or.inl ⟨by rfl, ?_⟩) ?_ ?_
            rotate_left
            ·intro w'
             go_simp
             with_reducible rfl
            rotate_left
            ·simp only [Act.put, List.setIfInBounds_toArray, List.set_cons_zero, List.set_cons_succ, i64_w, i32_w]
             rfl
            refine last_ (i := 10) (N := some 47) #[true, true, true, true, true, true, true, true, true, true, true, false, false] rfl rfl (one_of HT_.out (by kernel_rfl)) (by decide) (fun K hK => ?_)
            refine value_ (w1 := ?_) (v := ?_) (by rfl) rfl ?_ ?_
            rotate_left 2
            ·go_simp
             constructor
             ·rfl
             ·rfl
            refine hK.out _ _ ?_
            clear hK K
            refine norm_ (a' := ?_) ?_ ?_
            rotate_left
            ·show Act.put _ (some 47) _ = _
             simp only [Act.put, List.setIfInBounds_toArray, List.set_cons_zero, List.set_cons_succ, i64_w, i32_w]
             rfl
            refine last_ (i := 11) (N := some 48) #[true, true, true, true, true, true, true, true, true, true, true, true, false] rfl rfl (one_of HT_.out (by kernel_rfl)) (by decide) (fun K hK => ?_)
            refine Kd.R_append_step (Kd.int .i64) w.heap.size (by rfl) (.tmp 37) (.tmp 47) 22 3 (.int .i64 0) 8 rfl Try.underlying22 info3 rfl (by decide) (by omega) (.slice (some ad270) x6_2.length co24) x6_2 (wrap64 ((rd x6_2 (ji19)) + t271)) [.int .i64 (wrap64 ((rd x6_2 (ji19)) + t271))] (fun _ => True) (fun _ => False) rfl rfl ?aP (fun _ hk => hk.elim) ?aF ?aO (Below.refl _ _) ?aS ?aL ?_
            (case aP => exact rfl)
            (case aF => exact (fun _ _ => trivial))
            (case aO => exact (by exact HO_6.out))
            (case aS => exact (keep_size (w := w) (g := g) (row := none) (by exact HK.out)))
            (case aL => have := LMc23.out; omega)
            intro v275 w28 ho hb hg hat
            rw [← Ny274.out] at ho
            have n0_ := Aside0.mk (IsS71.grown (by exact HI0.out) hg (IsS71.own_ne HI0.out HO_6.out (by decide)))
            have n1_ := Aside0.mk (below_weaken (by exact HB.out) HL.out hb)
            have n2_ := Aside0.mk (KeepBut.trans (by exact HK.out) (KeepBut.of_grown hg g) (Kd.R_base2 HO_6.out))
            have n3_ := Aside0.mk (ho)
            clear HI0
            clear HB
            clear HK
            clear HO_6
            have HI0 := n0_
            have HB := n1_
            have HK := n2_
            have HO276 := n3_
            clear n0_ n1_ n2_ n3_
            clear ho hb hg hat
            refine hK.out _ _ ?_
            clear hK K
            refine norm_ (a' := ?_) ?_ ?_
            rotate_left
            ·show Act.put _ (some 48) _ = _
             simp only [Act.put, List.setIfInBounds_toArray, List.set_cons_zero, List.set_cons_succ, i64_w, i32_w]
             rfl
            refine pure_ (i := 12) (N := some 6) (v := ?_) (a' := ?_) #[true, true, true, true, true, true, true, true, true, true, true, true, true] rfl rfl (any_of HT_.out (by kernel_rfl)) (fun _ _ _ h => h) (Or.inl ⟨by rfl, ?_⟩) ?_ ?_
            rotate_left
            ·intro w'
             go_simp
             with_reducible rfl
            rotate_left
            ·simp only [Act.put, List.setIfInBounds_toArray, List.set_cons_zero, List.set_cons_succ, i64_w, i32_w]
             rfl
            refine done_ (done_of HT_.out (by kernel_rfl)) ?_
            try go_wp2
            go_roundg k2
            case measure => have := HJ3.out; have := HK2.out; omega
            case rel => exact ⟨(y274), (t272), (t273), H', ⟨by have := HJ3.out; have := HK2.out; omega⟩, ⟨by exact HO276.out⟩, ⟨by exact HI0.out⟩, ⟨by exact HK.out⟩, ⟨by exact HB.out⟩⟩
           ·rw [if_neg c23] at H
            exact absurd H (by simp)
          ·rw [if_neg c21] at H
           exact absurd H (by simp)
         ·rw [if_neg c20] at H
          exact absurd H (by simp)
       ·rw [if_neg c15] at H
        have c15b0 : decide ((x6_2.length : Int) < t261) = false := decide_eq_false c15
        clear c15
        (skip)
        (try rw [c15b1])
        have H' := Aside0.mk H
        clear H
        obtain ⟨Ao29, co29, eo29⟩ := Kd.R_slice HO_6.out
        subst eo29
        go_wp2
        go_meet
        case rel => exact ⟨_, (x6_2), (x1000_2), (x1001_2), H', ⟨by have := HJ3.out; have := HK2.out; omega⟩, ⟨by exact HO_6.out⟩, ⟨by exact HI0.out⟩, ⟨by exact HK.out⟩, ⟨by exact HB.out⟩⟩
    case rest =>
     clear HC11
     obtain ⟨kq, x6_10, x1000_10, x1001_10, HA, HJ10, HO_6, HI0, HK, HB⟩ := hcut
     cases kq with
     | zero => exact absurd HA.out (by simp [encode_reader_dict.j2])
     | succ kj10 =>
      have H := HA.out
      clear HA
      simp only [encode_reader_dict.j2] at H
      by_cases c30 : x1001_10 = true
      ·subst c30
       have H1 : (some (([] : List Int), x1000_10, true)) = some (r1, r2, r3) := by rw [if_pos rfl] at H; exact H
       clear H
       have H := H1
       clear H1
       simp only [Option.some.injEq, Prod.mk.injEq] at H
       obtain ⟨rfl, rfl, rfl⟩ := H
       obtain ⟨ASz31_0, cSz31_0, HGz31, hgz31, HSz31_0⟩ := HI0.out
       have hcz31_0 := cellS71_0 HGz31
       have hcz31_1 := cellS71_1 HGz31
       have hfz31_0 := blk_frozen HGz31 0
       have hfz31_1 := blk_frozen HGz31 1
       have HCSz31_0 := HSz31_0.1
       replace HSz31_0 := HSz31_0.2
       clear HGz31 hgz31
       go_wp2
       go_ret
       exact ⟨_, by rfl, by exact Kd.R_nil _ _ _ _ _, by exact HI0.out, by exact HB.out, by exact HK.out⟩
      ·replace c30 := Bool.eq_false_iff.mpr c30
       subst c30
       have H1 : ((encode_widthOf.f (wrap64 (t261 - 1))).bind fun t277 => ((encode_reader_packed.f kj10 x1000_10 false a1 t277).bind fun bt278 => (encode_reader_dict.l1 kj10 t261 x6_10 bt278.1 (bt278.1.length : Int) 0 bt278.2.1 bt278.2.2))) = some (r1, r2, r3) := by rw [if_neg (show ¬ (false = true) by decide)] at H; exact H
       clear H
       have H := H1
       clear H1
       replace H := Option.bind_eq_some_iff.mp H
       obtain ⟨t277, A320, H⟩ := H
       replace H : ((encode_reader_packed.f kj10 x1000_10 false a1 t277).bind fun bt278 => (encode_reader_dict.l1 kj10 t261 x6_10 bt278.1 (bt278.1.length : Int) 0 bt278.2.1 bt278.2.2)) = some (r1, r2, r3) := H
       have A32 := Aside0.mk A320
       clear A320
       replace H := Option.bind_eq_some_iff.mp H
       obtain ⟨⟨t278, t281, t282⟩, A330, H⟩ := H
       replace H : (encode_reader_dict.l1 kj10 t261 x6_10 t278 (t278.length : Int) 0 t281 t282) = some (r1, r2, r3) := H
       have A33 := Aside0.mk A330
       clear A330
       have H' := Aside0.mk H
       clear H
       obtain ⟨ASz34_0, cSz34_0, HGz34, hgz34, HSz34_0⟩ := HI0.out
       have hcz34_0 := cellS71_0 HGz34
       have hcz34_1 := cellS71_1 HGz34
       have hfz34_0 := blk_frozen HGz34 0
       have hfz34_1 := blk_frozen HGz34 1
       have HCSz34_0 := HSz34_0.1
       replace HSz34_0 := HSz34_0.2
       clear HGz34 hgz34
       go_wp2_with (first | ((with_reducible refine gate_callee (f := 78) rfl ?_); refine goesL_ (some 57) rfl rfl Try.func78 (by kernel_rfl) rfl #[.int .i64 (wrap64 (t261 - 1))] rfl (by (try simp only [List.map_toArray, List.map_cons, List.map_nil]); rfl) ?_; (with_reducible refine (encode_widthOf.calls (wrap64 (t261 - 1)) t277 _ A32.out).mono ?_); rintro e w' ⟨rfl, ⟨nd, rfl⟩⟩; refine ⟨_, rfl, ?_⟩) | ((with_reducible refine gate_callee (f := 114) rfl ?_); refine goesL_ (some 58) rfl rfl Try.func114 (by kernel_rfl) rfl #[.pointer (some ⟨g, 0, none⟩), .int .i64 a1, .int .i64 t277] rfl (by (try simp only [List.map_toArray, List.map_cons, List.map_nil]); rfl) ?_; (with_reducible refine (encode_reader_packed.calls kj10 g x1000_10 false a1 t277 t278 t281 t282 w0 _ ?side1 ?side2 A33.out).mono ?_); (case side1 => repeat ((with_reducible first | exact HI0.out | apply IsS71.drewN ))); (case side2 => repeat ((with_reducible first | exact HB.out | apply pw_below_drewN ))); rintro e w35 ⟨v279, rfl, ho0, hi, hb, hk⟩; refine ⟨_, rfl, ?_⟩; have n0_ := Aside0.mk (Kd.R_mono (Kd.R_told (Kd.R_oldK (IsS71.apart (show IsS71 w0 _ g x1000_10 false from by repeat ((with_reducible first | exact HI0.out | apply IsS71.drewN ))) (by (with_reducible repeat (apply Kd.R_drewN)); exact HO_6.out) (by decide)) hk) (Kd.R_base ho0)) (fun _ h_ => h_.1)); have n1_ := Aside0.mk (Kd.R_lower (Kd.R_new' ho0 (Kd.R_lt (by (with_reducible repeat (apply Kd.R_drewN)); exact HO_6.out))) (keep_size (w := w) (g := g) (row := none) (by repeat ((with_reducible first | exact HK.out | apply keep_drewN ))))); have n2_ := Aside0.mk (KeepBut.trans (by repeat ((with_reducible first | exact HK.out | apply keep_drewN ))) hk (.inl rfl)); have n3_ := Aside0.mk (hb); have n4_ := Aside0.mk (hi); clear HO_6; clear HK; clear HB; clear HI0; have HO_6 := n0_; have HO280 := n1_; have HK := n2_; have HB := n3_; have HI0 := n4_; clear n0_ n1_ n2_ n3_ n4_; (try clear hb); (try clear hk); (try clear hi); (try clear ho0); obtain ⟨Ao36, co36, eo36⟩ := Kd.R_slice HO280.out; subst eo36))
       go_loopg [61] kj10 (fun kq v61 w' => ∃ (x7_3 : List Int) (x61_3 : Int) (x1001_3 : Bool), v61 = .int .i64 x61_3 ∧ Aside0 (encode_reader_dict.l1 kq t261 x6_10 x7_3 (t278.length : Int) x61_3 t281 x1001_3 = some (r1, r2, r3)) ∧ Aside0 (kq ≤ kj10) ∧ Aside0 (Kd.R (Kd.int .i64) 3 w' w.heap.size (fun k_ => some k_ ≠ ((.slice Ao36 t278.length co36) : Value).ownBlock) u6 x6_10) ∧ Aside0 (Kd.R (Kd.int .i64) 3 w' w.heap.size (fun k_ => some k_ ≠ (u6 : Value).ownBlock) (.slice Ao36 t278.length co36) x7_3) ∧ Aside0 (IsS71 w0 w' g t281 x1001_3) ∧ Aside0 (KeepBut w w' g none) ∧ Aside0 (Below w0.heap.size w0 w'))
       case atStart => exact ⟨(t278), (0), (t282), (by rfl), H', ⟨Nat.le_refl _⟩, ⟨by exact Kd.R_mono HO_6.out (fun _ hk => hk.2)⟩, ⟨by exact Kd.R_mono HO280.out (fun _ hk => hk.2)⟩, ⟨by exact HI0.out⟩, ⟨by exact HK.out⟩, ⟨by exact HB.out⟩⟩
       case round =>
        clear H'
        try clear hcz34_0
        try clear hcz34_1
        try clear hfz34_0
        try clear hfz34_1
        obtain ⟨x7_3, x61_3, x1001_3, rfl, HA, HK3, HO_6, HO_7, HI0, HK, HB⟩ := hrel
        have hl7_3 := (Kd.R_reads' HO_7.out).1
        rw [hl7_3] at HO_7
        (try simp only [hl7_3])
        (try simp only [hl7_3] at HO_6)
        cases gk with
        | zero => exact absurd HA.out (by simp [encode_reader_dict.l1])
        | succ k3 =>
         have H := HA.out
         clear HA
         simp only [encode_reader_dict.l1] at H
         by_cases c37 : x61_3 < (t278.length : Int)
         ·rw [if_pos c37] at H
          have c37b0 : decide (x61_3 < (t278.length : Int)) = true := decide_eq_true c37
          have c37l0 := c37b0
          (try rw [hl7_3] at c37l0)
          clear c37
          by_cases c38 : 0 ≤ x61_3
          ·rw [if_pos c38] at H
           have c38b0 : decide (0 ≤ x61_3) = true := decide_eq_true c38
           clear c38
           by_cases c39 : x61_3 < (x7_3.length : Int)
           ·rw [if_pos c39] at H
            have c39b0 : decide (x61_3 < (x7_3.length : Int)) = true := decide_eq_true c39
            have c39l0 := c39b0
            (try rw [hl7_3] at c39l0)
            clear c39
            by_cases c40 : (rd x7_3 x61_3) ≥ t261
            ·rw [if_pos c40] at H
             have c40b0 : decide (t261 ≤ (rd x7_3 x61_3)) = true := decide_eq_true c40
             clear c40
             simp only [Option.some.injEq, Prod.mk.injEq] at H
             obtain ⟨rfl, rfl, rfl⟩ := H
             have p283 : 0 ≤ (x61_3 : Int) := of_decide_eq_true (by (with_reducible assumption))
             have q283 : x61_3 < (x7_3.length : Int) := of_decide_eq_true (by (with_reducible assumption))
             obtain ⟨ad283, e283, hx283_0⟩ := Kd.at_int (Kd.R_reads' HO_7.out).2.2 x61_3 p283 q283
             cases e283
             replace p283 := eq_true p283
             replace q283 := eq_true q283
             obtain ⟨ASz41_0, cSz41_0, HGz41, hgz41, HSz41_0⟩ := HI0.out
             have hcz41_0 := cellS71_0 HGz41
             have hcz41_1 := cellS71_1 HGz41
             have hfz41_0 := blk_frozen HGz41 0
             have hfz41_1 := blk_frozen HGz41 1
             have HCSz41_0 := HSz41_0.1
             replace HSz41_0 := HSz41_0.2
             clear HGz41 hgz41
             go_wp2
             go_ret
             exact ⟨_, by rfl, by exact Kd.R_nil _ _ _ _ _, by repeat ((with_reducible first | exact HI0.out | apply IsS71.set_1)), by repeat ((with_reducible first | exact HB.out | refine below_set ?_ (IsS71.ge HI0.out))), by repeat ((with_reducible first | exact HK.out | apply KeepBut.set_ ))⟩
            ·rw [if_neg c40] at H
             have c40b0 : decide (t261 ≤ (rd x7_3 x61_3)) = false := decide_eq_false c40
             clear c40
             by_cases c42 : 0 ≤ (rd x7_3 x61_3)
             ·rw [if_pos c42] at H
              have c42b0 : decide (0 ≤ (rd x7_3 x61_3)) = true := decide_eq_true c42
              clear c42
              by_cases c43 : (rd x7_3 x61_3) < (x6_10.length : Int)
              ·rw [if_pos c43] at H
               have c43b0 : decide ((rd x7_3 x61_3) < (x6_10.length : Int)) = true := decide_eq_true c43
               have c43l0 := c43b0
               (try rw [hl7_3] at c43l0)
               clear c43
               obtain ⟨y285, hy285⟩ : ∃ y_ : List Int, y_ = (x7_3.set (x61_3 : Int).toNat (rd x6_10 (rd x7_3 x61_3))) := ⟨_, rfl⟩
               replace H : (encode_reader_dict.l1 k3 t261 x6_10 y285 (t278.length : Int) (wrap64 (x61_3 + 1)) t281 x1001_3) = some (r1, r2, r3) := by (rw [hy285]; with_reducible exact H)
               have Ny285 := Aside0.mk hy285
               clear hy285
               have H' := Aside0.mk H
               clear H
               have p283 : 0 ≤ (x61_3 : Int) := of_decide_eq_true (by (with_reducible assumption))
               have q283 : x61_3 < (x7_3.length : Int) := of_decide_eq_true (by (with_reducible assumption))
               obtain ⟨ad283, e283, hx283_0⟩ := Kd.at_int (Kd.R_reads' HO_7.out).2.2 x61_3 p283 q283
               cases e283
               replace p283 := eq_true p283
               replace q283 := eq_true q283
               obtain ⟨Ao45, co45, eo45⟩ := Kd.R_slice HO_6.out
               subst eo45
               have p284 : 0 ≤ ((rd x7_3 x61_3) : Int) := of_decide_eq_true (by (with_reducible assumption))
               have q284 : (rd x7_3 x61_3) < (x6_10.length : Int) := of_decide_eq_true (by (with_reducible assumption))
               obtain ⟨ad284, e284, hx284_0⟩ := Kd.at_int (Kd.R_reads' HO_6.out).2.2 (rd x7_3 x61_3) p284 q284
               cases e284
               replace p284 := eq_true p284
               replace q284 := eq_true q284
               have p44 : 0 ≤ (x61_3 : Int) := of_decide_eq_true (by (with_reducible assumption))
               have q44 : (x61_3 : Int) < ((x7_3.length : Int) : Int) := of_decide_eq_true (by (with_reducible assumption))
               obtain ⟨go44, co44, eo44, gb44, gl44, cl44, HG44⟩ := Kd.R_form HO_7.out (by omega)
               (cases eo44)
               have GB44 := Aside0.mk gb44
               have GG44 := Aside0.mk HG44
               clear gb44 gl44 HG44
               (simp only [add_plain] at hx283_0)
               obtain ⟨hx44_0, hf44_0⟩ := Kd.R_celln 0 HO_7.out (x61_3 : Int) p44 q44
               replace p44 := eq_true p44
               replace q44 := eq_true q44
               have HP46 := Kd.R_putg HO_7.out (x61_3 : Int) (rd x6_10 (rd x7_3 x61_3))
               go_wp2_with (first | ((with_reducible refine gate_store (t := 3) (p := 78) rfl ?_); refine store_event (t := 3) (p := 78) (v := ?vo_w47) (w1 := (wr.setCell ⟨go44, (x61_3 : Int).toNat, none⟩ (.int .i64 (rd x6_10 (rd x7_3 x61_3))))) ?hg ?ho ?hn ?hr ?_; (case ho => rfl); (case hg => rfl); (case hn => rfl); (case hr => (go_simp; done)); intro w47 hw; have hg : wr.grownBy w47 (some go44) := (by rw [hw]; exact HP46.2); have hp_ : Kd.R (Kd.int .i64) 3 w47 w.heap.size (fun k_ => some k_ ≠ (.slice (some ad284) x6_10.length co45 : Value).ownBlock) (.slice (some ⟨go44, 0, none⟩) x7_3.length co36) y285 := (by rw [hw, Ny285.out]; exact HP46.1); clear HP46; have n0_ := Aside0.mk (Kd.R_after (v := (.slice (some ⟨go44, 0, none⟩) x7_3.length co36)) (v1 := (.slice (some ⟨go44, 0, none⟩) x7_3.length co36)) (ok := (fun _ => True)) (by exact Kd.R_mono HO_6.out (fun _ hk => ⟨trivial, hk⟩)) hg (.inl rfl)); have n1_ := Aside0.mk (hp_); have n2_ := Aside0.mk (IsS71.grown (by exact HI0.out) hg (IsS71.own_ne HI0.out HO_7.out (by decide))); have n3_ := Aside0.mk ((by rw [hw]; exact below_set (HB.out) (Nat.le_trans HL.out GB44.out) : Below w0.heap.size w0 w47)); have n4_ := Aside0.mk (KeepBut.trans (by exact HK.out) (KeepBut.of_grown hg g) (Kd.R_base2 HO_7.out)); clear HO_6; clear HO_7; clear HI0; clear HB; clear HK; have HO_6 := n0_; have HO_7 := n1_; have HI0 := n2_; have HB := n3_; have HK := n4_; clear n0_ n1_ n2_ n3_ n4_; clear hg hw hp_))
               (try simp only [← hl7_3])
               go_roundg k3
               case measure => have := HJ3.out; have := HJ10.out; have := HK3.out; omega
               case rel => exact ⟨(y285), (wrap64 (x61_3 + 1)), (x1001_3), (by rfl), H', ⟨by have := HJ3.out; have := HJ10.out; have := HK3.out; omega⟩, ⟨by (try simp only [hl7_3]); exact Kd.R_mono HO_6.out (fun _ hk => hk.2)⟩, ⟨by (try simp only [hl7_3]); exact HO_7.out⟩, ⟨by exact HI0.out⟩, ⟨by exact HK.out⟩, ⟨by exact HB.out⟩⟩
              ·rw [if_neg c43] at H
               exact absurd H (by simp)
             ·rw [if_neg c42] at H
              exact absurd H (by simp)
           ·rw [if_neg c39] at H
            exact absurd H (by simp)
          ·rw [if_neg c38] at H
           exact absurd H (by simp)
         ·rw [if_neg c37] at H
          have c37b0 : decide (x61_3 < (t278.length : Int)) = false := decide_eq_false c37
          have c37l0 := c37b0
          (try rw [hl7_3] at c37l0)
          clear c37
          simp only [Option.some.injEq, Prod.mk.injEq] at H
          obtain ⟨rfl, rfl, rfl⟩ := H
          go_wp2
          go_ret
          exact ⟨_, by rfl, by exact Kd.R_mono HO_7.out (fun _ hk => trivial), by exact HI0.out, by exact HB.out, by exact HK.out⟩

end Go.Proofs.Ythhdihnaicggiaa.J
