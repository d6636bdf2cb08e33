/- Printed by a program of this session (wip/tools/printh.py over the kit's printer): Lean functions that answer as the Go functions do, with the proofs of it. No conditions beyond those in each theorem. -/
import Derived.Test.YthhdihnaicggiaaI0
import Derived.Test.YthhdihnaicggiaaI10
import Derived.Test.YthhdihnaicggiaaI13
import Derived.Test.YthhdihnaicggiaaI15
namespace Go.Proofs.Ythhdihnaicggiaa.I
open Go.RowKit Go.Proofs.YthhdihnaicggiaaW.PrintWords Go.Proofs.YthhdihnaicggiaaW.PrintLast Go.Proofs.YthhdihnaicggiaaW.PrintMore
attribute [local go_sem] max2_int min2_int max_two min_two max_three min_three max_four min_four   -- for this text's walks alone
set_option linter.unusedVariables false
set_option linter.unusedSimpArgs false

/-! ### peristyleref2_reader_dict: function 88 -/
mutual
def peristyleref2_reader_dict.j0 : Nat → Int → Int → Bool → List Int → Bool → Option (List Int × List Int × Bool)
 | 0, _, _, _, _, _ => none
 | k + 1, x1, x5, x21, x1000, x1001 => if x21 = true then (some (([] : List Int), x1000, true)) else ((peristyleref2_reader_number.f k x1000 x1001).bind fun bt558 => (peristyleref2_reader_dict.l0 k x1 x5 (([bt558.1] : List Int)) bt558.2.1 bt558.2.2))
def peristyleref2_reader_dict.j2 : Nat → Int → Int → List Int → List Int → Bool → Option (List Int × List Int × Bool)
 | 0, _, _, _, _, _ => none
 | k + 1, x1, x5, x6, x1000, x1001 => if x1001 = true then (some (([] : List Int), x1000, x1001)) else ((peristyleref2_width.f (wrap64 (x5 - 1))).bind fun t571 => ((peristyleref2_reader_unpacked.f k x1000 x1001 x1 t571).bind fun bt572 => ((peristyleref2_reader_picked.f k bt572.2.1 bt572.2.2 bt572.1 x6).bind fun bt577 => (some (bt577.1, bt577.2.1, bt577.2.2)))))
def peristyleref2_reader_dict.l0 : Nat → Int → Int → List Int → List Int → Bool → Option (List Int × List Int × Bool)
 | 0, _, _, _, _, _ => none
 | k + 1, x1, x5, x6, x1000, x1001 => if (x6.length : Int) < x5 then (if x1001 = true then (peristyleref2_reader_dict.j2 k x1 x5 x6 x1000 x1001) else (if 0 ≤ (wrap64 ((x6.length : Int) - 1)) then (if (wrap64 ((x6.length : Int) - 1)) < (x6.length : Int) then ((peristyleref2_reader_count.f k x1000 x1001).bind fun bt565 => (if x6.length < 17592186044416 then (peristyleref2_reader_dict.l0 k x1 x5 (x6 ++ [wrap64 ((rd x6 (wrap64 ((x6.length : Int) - 1))) + bt565.1)]) bt565.2.1 bt565.2.2) else (none))) else (none)) else (none))) else (peristyleref2_reader_dict.j2 k x1 x5 x6 x1000 x1001)
end
def peristyleref2_reader_dict.f (k : Nat) (s0_0 : List Int) (s0_1 : Bool) (a1 : Int) : Option (List Int × List Int × Bool) := (peristyleref2_reader_count.f k s0_0 s0_1).bind fun bt555 => (if bt555.2.2 = true then (peristyleref2_reader_dict.j0 k a1 bt555.1 true bt555.2.1 bt555.2.2) else (if bt555.1 < 1 then (peristyleref2_reader_dict.j0 k a1 bt555.1 true bt555.2.1 bt555.2.2) else (peristyleref2_reader_dict.j0 k a1 bt555.1 (decide (bt555.1 > a1)) bt555.2.1 bt555.2.2)))
theorem peristyleref2_reader_dict.mono_l : ∀ k, (∀ y0 y1 y2 y3 y4, LeO (peristyleref2_reader_dict.j0 k y0 y1 y2 y3 y4) (peristyleref2_reader_dict.j0 (k + 1) y0 y1 y2 y3 y4)) ∧ (∀ y0 y1 y2 y3 y4, LeO (peristyleref2_reader_dict.j2 k y0 y1 y2 y3 y4) (peristyleref2_reader_dict.j2 (k + 1) y0 y1 y2 y3 y4)) ∧ (∀ y0 y1 y2 y3 y4, LeO (peristyleref2_reader_dict.l0 k y0 y1 y2 y3 y4) (peristyleref2_reader_dict.l0 (k + 1) y0 y1 y2 y3 y4))
 | 0 => ⟨fun _ _ _ _ _ r h => by simp [peristyleref2_reader_dict.j0] at h, fun _ _ _ _ _ r h => by simp [peristyleref2_reader_dict.j2] at h, fun _ _ _ _ _ r h => by simp [peristyleref2_reader_dict.l0] at h⟩
 | k + 1 => by
  obtain ⟨ih0, ih1, ih2⟩ := peristyleref2_reader_dict.mono_l k
  refine ⟨?_, ?_, ?_⟩ <;> intros
  all_goals (first | unfold peristyleref2_reader_dict.j0 | unfold peristyleref2_reader_dict.j2 | unfold peristyleref2_reader_dict.l0)
  all_goals
   repeat' first
   | (with_reducible exact ih1 _ _ _ _ _)
   | (with_reducible exact ih2 _ _ _ _ _)
   | (with_reducible exact peristyleref2_reader_count.mono _ _ _)
   | (with_reducible exact peristyleref2_reader_number.mono _ _ _)
   | (with_reducible exact peristyleref2_reader_picked.mono _ _ _ _ _)
   | (with_reducible exact peristyleref2_reader_unpacked.mono _ _ _ _ _)
   | (with_reducible exact LeO.refl _)
   | (with_reducible refine LeO.ite ?_ ?_)
   | (with_reducible refine LeO.bind ?_ (fun _ => ?_))
theorem peristyleref2_reader_dict.mono : ∀ a0 a1 a2 k, LeO (peristyleref2_reader_dict.f k a0 a1 a2) (peristyleref2_reader_dict.f (k + 1) a0 a1 a2) := by
 intro a0 a1 a2 k
 obtain ⟨ih0, ih1, ih2⟩ := peristyleref2_reader_dict.mono_l k
 unfold peristyleref2_reader_dict.f
 repeat' first
  | (with_reducible exact ih0 _ _ _ _ _)
  | (with_reducible exact peristyleref2_reader_count.mono _ _ _)
  | (with_reducible refine LeO.ite ?_ ?_)
  | (with_reducible refine LeO.bind ?_ (fun _ => ?_))
def peristyleref2_reader_dict.T7 : Bool × List (List Nat × List Nat) := (true, [([], []), ([], []), ([], []), ([2], [2]), ([3], [3]), ([1, 4], [1, 4]), ([5], [5]), ([], []), ([7], [7]), ([6, 8], [6, 8]), ([9], [9]), ([0, 10, 8], [0, 10]), ([11, 11, 0, 1, 2, 3, 4, 5, 6, 7, 8, 9, 10, 11], [0, 1, 2, 11])])
def peristyleref2_reader_dict.B7 : List Nat := [0, 0, 0, 4, 12, 30, 62, 0, 128, 510, 1022, 2047, 4095]
theorem peristyleref2_reader_dict.tab7 : rtab .any (opsOf Try.f88 7) = peristyleref2_reader_dict.T7 := by kernel_rfl
theorem peristyleref2_reader_dict.bits7 : waitsOk peristyleref2_reader_dict.T7.2 peristyleref2_reader_dict.B7 = true := by kernel_rfl
set_option maxHeartbeats 8000000 in
set_option maxRecDepth 100000 in
theorem peristyleref2_reader_dict.calls (k : Nat) (g : Nat) (s0_0 : List Int) (s0_1 : Bool) (a1 : Int) (r1 : List Int) (r2 : List Int) (r3 : Bool) (w0 w : World) (hI : IsS75 w0 w g s0_0 s0_1) (hB : Below w0.heap.size w0 w) (h : peristyleref2_reader_dict.f k s0_0 s0_1 a1 = some (r1, r2, r3)) :
 Calls Try.prog 88 #[.pointer (some ⟨g, 0, none⟩), .int .i64 a1] w fun e w' => ∃ v0_ : Value, e = .returned (v0_) ∧ Kd.R (Kd.int .i64) 3 w' w.heap.size (fun _ => True) v0_ r1 ∧ IsS75 w0 w' g r2 r3 ∧ Below w0.heap.size w0 w' ∧ KeepBut w w' g none := by
 have HI0 := Aside0.mk hI
 have HK := Aside0.mk (KeepBut.refl w g none)
 have HL := Aside0.mk hB.size
 clear hI
 have HW0 := Aside0.mk hB.size
 have HB := Aside0.mk hB
 have HBZ := Aside0.mk hB
 clear hB
 have H : ((peristyleref2_reader_count.f k s0_0 s0_1).bind fun bt555 => (if bt555.2.2 = true then (peristyleref2_reader_dict.j0 k a1 bt555.1 true bt555.2.1 bt555.2.2) else (if bt555.1 < 1 then (peristyleref2_reader_dict.j0 k a1 bt555.1 true bt555.2.1 bt555.2.2) else (peristyleref2_reader_dict.j0 k a1 bt555.1 (decide (bt555.1 > a1)) bt555.2.1 bt555.2.2)))) = some (r1, r2, r3) := h
 clear h
 replace H := Option.bind_eq_some_iff.mp H
 obtain ⟨⟨t555, t556, t557⟩, A30, H⟩ := H
 replace H : (if t557 = true then (peristyleref2_reader_dict.j0 k a1 t555 true t556 t557) else (if t555 < 1 then (peristyleref2_reader_dict.j0 k a1 t555 true t556 t557) else (peristyleref2_reader_dict.j0 k a1 t555 (decide (t555 > a1)) t556 t557))) = some (r1, r2, r3) := H
 have A3 := Aside0.mk A30
 clear A30
 have HC4 := Aside0.mk H
 clear H
 go_enter Try.func88, Try.ntmps88
 go_upto_region 2 with (first | ((with_reducible refine gate_callee (f := 60) rfl ?_); refine goesL_ (some 8) rfl rfl Try.func60 (by kernel_rfl) rfl #[.pointer (some ⟨g, 0, none⟩)] rfl (by (try simp only [List.map_toArray, List.map_cons, List.map_nil]); rfl) ?_; (with_reducible refine (peristyleref2_reader_count.calls k g s0_0 s0_1 t555 t556 t557 w0 _ ?side1 ?side2 A3.out).mono ?_); (case side1 => exact HI0.out); (case side2 => exact HB.out); rintro e w5 ⟨rfl, hi, hb, hk⟩; refine ⟨_, rfl, ?_⟩; have n0_ := Aside0.mk (KeepBut.trans (by exact HK.out) hk (.inl rfl)); have n1_ := Aside0.mk (hb); have n2_ := Aside0.mk (hi); clear HK; clear HB; clear HI0; have HK := n0_; have HB := n1_; have HI0 := n2_; clear n0_ n1_ n2_; (try clear hb); (try clear hk); (try clear hi)))
 (try simp only [Act.put, List.setIfInBounds_toArray, List.set_cons_zero, List.set_cons_succ])
 go_cut [21] (fun v21 wc => ∃ (kq : Nat) (x21_3 : Bool), v21 = .bool x21_3 ∧ Aside0 (peristyleref2_reader_dict.j0 kq a1 t555 x21_3 t556 t557 = some (r1, r2, r3)) ∧ Aside0 (kq ≤ k) ∧ Aside0 (IsS75 w0 wc g t556 t557) ∧ Aside0 (KeepBut w wc g none) ∧ Aside0 (Below w0.heap.size w0 wc))
 case first =>
  have H := HC4.out
  clear HC4
  by_cases c6 : t557 = true
  ·subst c6
   have H1 : (peristyleref2_reader_dict.j0 k a1 t555 true t556 true) = some (r1, r2, r3) := by rw [if_pos rfl] at H; exact H
   clear H
   have H := H1
   clear H1
   have H' := Aside0.mk H
   clear H
   obtain ⟨ASz7_0, cSz7_0, HGz7, hgz7, HSz7_0⟩ := HI0.out
   have hcz7_0 := cellS75_0 HGz7
   have hcz7_1 := cellS75_1 HGz7
   have hfz7_0 := blk_frozen HGz7 0
   have hfz7_1 := blk_frozen HGz7 1
   have HCSz7_0 := HSz7_0.1
   replace HSz7_0 := HSz7_0.2
   clear HGz7 hgz7
   go_wp2
   go_meet
   case rel => exact ⟨_, (true), (by rfl), H', ⟨by omega⟩, ⟨by exact HI0.out⟩, ⟨by exact HK.out⟩, ⟨by exact HB.out⟩⟩
  ·replace c6 := Bool.eq_false_iff.mpr c6
   subst c6
   have H1 : (if t555 < 1 then (peristyleref2_reader_dict.j0 k a1 t555 true t556 false) else (peristyleref2_reader_dict.j0 k a1 t555 (decide (t555 > a1)) t556 false)) = some (r1, r2, r3) := by rw [if_neg (show ¬ (false = true) by decide)] at H; exact H
   clear H
   have H := H1
   clear H1
   by_cases c8 : t555 < 1
   ·rw [if_pos c8] at H
    have c8b0 : decide (t555 < 1) = true := decide_eq_true c8
    clear c8
    (skip)
    (try rw [c8b1])
    have H' := Aside0.mk H
    clear H
    obtain ⟨ASz9_0, cSz9_0, HGz9, hgz9, HSz9_0⟩ := HI0.out
    have hcz9_0 := cellS75_0 HGz9
    have hcz9_1 := cellS75_1 HGz9
    have hfz9_0 := blk_frozen HGz9 0
    have hfz9_1 := blk_frozen HGz9 1
    have HCSz9_0 := HSz9_0.1
    replace HSz9_0 := HSz9_0.2
    clear HGz9 hgz9
    go_wp2
    go_meet
    case rel => exact ⟨_, (true), (by rfl), H', ⟨by omega⟩, ⟨by exact HI0.out⟩, ⟨by exact HK.out⟩, ⟨by exact HB.out⟩⟩
   ·rw [if_neg c8] at H
    have c8b0 : decide (t555 < 1) = false := decide_eq_false c8
    clear c8
    (skip)
    (try rw [c8b1])
    have H' := Aside0.mk H
    clear H
    obtain ⟨ASz10_0, cSz10_0, HGz10, hgz10, HSz10_0⟩ := HI0.out
    have hcz10_0 := cellS75_0 HGz10
    have hcz10_1 := cellS75_1 HGz10
    have hfz10_0 := blk_frozen HGz10 0
    have hfz10_1 := blk_frozen HGz10 1
    have HCSz10_0 := HSz10_0.1
    replace HSz10_0 := HSz10_0.2
    clear HGz10 hgz10
    go_wp2
    go_meet
    case rel => exact ⟨_, (decide (t555 > a1)), (by rfl), H', ⟨by omega⟩, ⟨by exact HI0.out⟩, ⟨by exact HK.out⟩, ⟨by exact HB.out⟩⟩
 case rest =>
  clear HC4
  obtain ⟨kq, x21_3, rfl, HA, HJ3, HI0, HK, HB⟩ := hcut
  cases kq with
  | zero => exact absurd HA.out (by simp [peristyleref2_reader_dict.j0])
  | succ kj3 =>
   have H := HA.out
   clear HA
   simp only [peristyleref2_reader_dict.j0] at H
   by_cases c11 : x21_3 = true
   ·subst c11
    have H1 : (some (([] : List Int), t556, true)) = some (r1, r2, r3) := by rw [if_pos rfl] at H; exact H
    clear H
    have H := H1
    clear H1
    simp only [Option.some.injEq, Prod.mk.injEq] at H
    obtain ⟨rfl, rfl, rfl⟩ := H
    obtain ⟨ASz12_0, cSz12_0, HGz12, hgz12, HSz12_0⟩ := HI0.out
    have hcz12_0 := cellS75_0 HGz12
    have hcz12_1 := cellS75_1 HGz12
    have hfz12_0 := blk_frozen HGz12 0
    have hfz12_1 := blk_frozen HGz12 1
    have HCSz12_0 := HSz12_0.1
    replace HSz12_0 := HSz12_0.2
    clear HGz12 hgz12
    go_wp2
    go_ret
    exact ⟨_, by rfl, by exact Kd.R_nil _ _ _ _ _, by repeat ((with_reducible first | exact HI0.out | apply IsS75.set_1)), by repeat ((with_reducible first | exact HB.out | refine below_set ?_ (IsS75.ge HI0.out))), by repeat ((with_reducible first | exact HK.out | apply KeepBut.set_ ))⟩
   ·replace c11 := Bool.eq_false_iff.mpr c11
    subst c11
    have H1 : ((peristyleref2_reader_number.f kj3 t556 t557).bind fun bt558 => (peristyleref2_reader_dict.l0 kj3 a1 t555 (([bt558.1] : List Int)) bt558.2.1 bt558.2.2)) = some (r1, r2, r3) := by rw [if_neg (show ¬ (false = true) by decide)] at H; exact H
    clear H
    have H := H1
    clear H1
    replace H := Option.bind_eq_some_iff.mp H
    obtain ⟨⟨t558, t559, t560⟩, A130, H⟩ := H
    replace H : (peristyleref2_reader_dict.l0 kj3 a1 t555 (([t558] : List Int)) t559 t560) = some (r1, r2, r3) := H
    have A13 := Aside0.mk A130
    clear A130
    obtain ⟨y561, hy561⟩ : ∃ y_ : List Int, y_ = (([t558] : List Int)) := ⟨_, rfl⟩
    replace H : (peristyleref2_reader_dict.l0 kj3 a1 t555 y561 t559 t560) = some (r1, r2, r3) := by (rw [hy561]; with_reducible exact H)
    have Ny561 := Aside0.mk hy561
    clear hy561
    have HC14 := Aside0.mk H
    clear H
    go_upto_block 0 with (first | ((with_reducible refine gate_callee (f := 86) rfl ?_); refine goesL_ (some 26) rfl rfl Try.func86 (by kernel_rfl) rfl #[.pointer (some ⟨g, 0, none⟩)] rfl (by (try simp only [List.map_toArray, List.map_cons, List.map_nil]); rfl) ?_; (with_reducible refine (peristyleref2_reader_number.calls kj3 g t556 t557 t558 t559 t560 w0 _ ?side1 ?side2 A13.out).mono ?_); (case side1 => exact HI0.out); (case side2 => exact HB.out); rintro e w15 ⟨rfl, hi, hb, hk⟩; refine ⟨_, rfl, ?_⟩; have n0_ := Aside0.mk (KeepBut.trans (by exact HK.out) hk (.inl rfl)); have n1_ := Aside0.mk (hb); have n2_ := Aside0.mk (hi); clear HK; clear HB; clear HI0; have HK := n0_; have HB := n1_; have HI0 := n2_; clear n0_ n1_ n2_; (try clear hb); (try clear hk); (try clear hi)) | ((with_reducible refine gate_dst (N := 27) rfl ?_); refine Kd.R_lit (Kd.int .i64) _ 3 ?hg (N := 27) ?hd (xs := ([t558] : List Int)) (inner := [.int .i64 t558]) (ok := fun _ => True) (okp := fun _ => True) ?hr ?hp (fun _ hk => hk) trivial (Below.refl _ _) (Nat.le_refl _) (by simp) ?_; (case hd => rfl); (case hg => rfl); (case hr => (go_simp; done)); (case hp => exact (Reps.one (show Kd.M (Kd.int .i64) _ _ _ t558 [.int .i64 t558] from rfl) (Reps.none _ _))); intro v562 w16 ho17 hb hg_ hnew_; clear hg_ hnew_; (rw [← Ny561.out] at ho17); have n0_ := Aside0.mk (Kd.R_lower ho17 (keep_size (w := w) (g := g) (row := none) (by exact HK.out))); have n1_ := Aside0.mk (IsS75.below (by exact HI0.out) hb); have n2_ := Aside0.mk (KeepBut.trans (by exact HK.out) (KeepBut.of_below hb g none) (.inl rfl)); have n3_ := Aside0.mk (below_step (by exact HB.out) hb); clear HI0; clear HK; clear HB; have HO563 := n0_; have HI0 := n1_; have HK := n2_; have HB := n3_; clear n0_ n1_ n2_ n3_; clear hb ho17))
    (try simp only [Act.put, List.setIfInBounds_toArray, List.set_cons_zero, List.set_cons_succ])
    go_cut [6] (fun v6 wc => ∃ (kq : Nat) (x6_13 : List Int) (x1000_13 : List Int) (x1001_13 : Bool), Aside0 (peristyleref2_reader_dict.j2 kq a1 t555 x6_13 x1000_13 x1001_13 = some (r1, r2, r3)) ∧ Aside0 (kq ≤ kj3) ∧ Aside0 (Kd.R (Kd.int .i64) 3 wc w.heap.size (fun _ => True) v6 x6_13) ∧ Aside0 (IsS75 w0 wc g x1000_13 x1001_13) ∧ Aside0 (KeepBut w wc g none) ∧ Aside0 (Below w0.heap.size w0 wc))
    case first =>
     have H := HC14.out
     clear HC14
     have H' := Aside0.mk H
     clear H
     go_wp2
     go_loopg [6] kj3 (fun kq v6 w' => ∃ (x6_2 : List Int) (x1000_2 : List Int) (x1001_2 : Bool), Aside0 (peristyleref2_reader_dict.l0 kq a1 t555 x6_2 x1000_2 x1001_2 = some (r1, r2, r3)) ∧ Aside0 (kq ≤ kj3) ∧ Aside0 (Kd.R (Kd.int .i64) 3 w' w.heap.size (fun _ => True) v6 x6_2) ∧ Aside0 (IsS75 w0 w' g x1000_2 x1001_2) ∧ Aside0 (KeepBut w w' g none) ∧ Aside0 (Below w0.heap.size w0 w'))
     case atStart => exact ⟨(y561), (t559), (t560), H', ⟨Nat.le_refl _⟩, ⟨by exact HO563.out⟩, ⟨by exact HI0.out⟩, ⟨by exact HK.out⟩, ⟨by exact HB.out⟩⟩
     case round =>
      clear H'
      obtain ⟨x6_2, x1000_2, x1001_2, HA, HK2, HO_6, HI0, HK, HB⟩ := hrel
      cases gk with
      | zero => exact absurd HA.out (by simp [peristyleref2_reader_dict.l0])
      | succ k2 =>
       have H := HA.out
       clear HA
       simp only [peristyleref2_reader_dict.l0] at H
       by_cases c18 : (x6_2.length : Int) < t555
       ·rw [if_pos c18] at H
        have c18b0 : decide ((x6_2.length : Int) < t555) = true := decide_eq_true c18
        clear c18
        (skip)
        (try rw [c18b1])
        by_cases c19 : x1001_2 = true
        ·subst c19
         have H1 : (peristyleref2_reader_dict.j2 k2 a1 t555 x6_2 x1000_2 true) = some (r1, r2, r3) := by rw [if_pos rfl] at H; exact H
         clear H
         have H := H1
         clear H1
         have H' := Aside0.mk H
         clear H
         obtain ⟨Ao20, co20, eo20⟩ := Kd.R_slice HO_6.out
         subst eo20
         obtain ⟨ASz21_0, cSz21_0, HGz21, hgz21, HSz21_0⟩ := HI0.out
         have hcz21_0 := cellS75_0 HGz21
         have hcz21_1 := cellS75_1 HGz21
         have hfz21_0 := blk_frozen HGz21 0
         have hfz21_1 := blk_frozen HGz21 1
         have HCSz21_0 := HSz21_0.1
         replace HSz21_0 := HSz21_0.2
         clear HGz21 hgz21
         go_wp2
         go_meet
         case rel => exact ⟨_, (x6_2), (x1000_2), (true), H', ⟨by have := HJ3.out; have := HK2.out; omega⟩, ⟨by exact HO_6.out⟩, ⟨by exact HI0.out⟩, ⟨by exact HK.out⟩, ⟨by exact HB.out⟩⟩
        ·replace c19 := Bool.eq_false_iff.mpr c19
         subst c19
         have H1 : (if 0 ≤ (wrap64 ((x6_2.length : Int) - 1)) then (if (wrap64 ((x6_2.length : Int) - 1)) < (x6_2.length : Int) then ((peristyleref2_reader_count.f k2 x1000_2 false).bind fun bt565 => (if x6_2.length < 17592186044416 then (peristyleref2_reader_dict.l0 k2 a1 t555 (x6_2 ++ [wrap64 ((rd x6_2 (wrap64 ((x6_2.length : Int) - 1))) + bt565.1)]) bt565.2.1 bt565.2.2) else (none))) else (none)) else (none)) = some (r1, r2, r3) := by rw [if_neg (show ¬ (false = true) by decide)] at H; exact H
         clear H
         have H := H1
         clear H1
         obtain ⟨ji22, hji22⟩ : ∃ j_ : Int, (wrap64 ((x6_2.length : Int) - 1)) = j_ := ⟨_, rfl⟩
         replace H : (if 0 ≤ (ji22) then (if (ji22) < (x6_2.length : Int) then ((peristyleref2_reader_count.f k2 x1000_2 false).bind fun bt565 => (if x6_2.length < 17592186044416 then (peristyleref2_reader_dict.l0 k2 a1 t555 (x6_2 ++ [wrap64 ((rd x6_2 (ji22)) + bt565.1)]) bt565.2.1 bt565.2.2) else (none))) else (none)) else (none)) = some (r1, r2, r3) := by (rw [hji22] at H; exact H)
         have hji22w : (IntKind.i64.wrap ((x6_2.length : Int) - 1)) = ji22 := (i64_w _).trans hji22
         by_cases c23 : 0 ≤ (ji22)
         ·rw [if_pos c23] at H
          have c23b0 : decide (0 ≤ (ji22)) = true := decide_eq_true c23
          clear c23
          by_cases c24 : (ji22) < (x6_2.length : Int)
          ·rw [if_pos c24] at H
           have c24b0 : decide ((ji22) < (x6_2.length : Int)) = true := decide_eq_true c24
           clear c24
           replace H := Option.bind_eq_some_iff.mp H
           obtain ⟨⟨t565, t566, t567⟩, A250, H⟩ := H
           replace H : (if x6_2.length < 17592186044416 then (peristyleref2_reader_dict.l0 k2 a1 t555 (x6_2 ++ [wrap64 ((rd x6_2 (ji22)) + t565)]) t566 t567) else (none)) = some (r1, r2, r3) := H
           have A25 := Aside0.mk A250
           clear A250
           by_cases c26 : x6_2.length < 17592186044416
           ·rw [if_pos c26] at H
            have LMc26 := Aside0.mk c26
            clear c26
            obtain ⟨y568, hy568⟩ : ∃ y_ : List Int, y_ = (x6_2 ++ [wrap64 ((rd x6_2 (ji22)) + t565)]) := ⟨_, rfl⟩
            replace H : (peristyleref2_reader_dict.l0 k2 a1 t555 y568 t566 t567) = some (r1, r2, r3) := by (rw [hy568]; with_reducible exact H)
            have Ny568 := Aside0.mk hy568
            clear hy568
            have H' := Aside0.mk H
            clear H
            obtain ⟨Ao27, co27, eo27⟩ := Kd.R_slice HO_6.out
            subst eo27
            obtain ⟨ASz28_0, cSz28_0, HGz28, hgz28, HSz28_0⟩ := HI0.out
            have hcz28_0 := cellS75_0 HGz28
            have hcz28_1 := cellS75_1 HGz28
            have hfz28_0 := blk_frozen HGz28 0
            have hfz28_1 := blk_frozen HGz28 1
            have HCSz28_0 := HSz28_0.1
            replace HSz28_0 := HSz28_0.2
            clear HGz28 hgz28
            try go_wp2
            have n0_ := Aside0.mk (Kd.R_drew HO_6.out)
            have n1_ := Aside0.mk (IsS75.drew HI0.out)
            have n2_ := Aside0.mk (keep_drew HK.out)
            have n3_ := Aside0.mk (below_drew1 HB.out)
            clear HO_6
            clear HI0
            clear HK
            clear HB
            have HO_6 := n0_
            have HI0 := n1_
            have HK := n2_
            have HB := n3_
            clear n0_ n1_ n2_ n3_
            have p564 : 0 ≤ ((ji22) : Int) := of_decide_eq_true (by (with_reducible assumption))
            have q564 : (ji22) < (x6_2.length : Int) := of_decide_eq_true (by (with_reducible assumption))
            obtain ⟨ad564, e564, hx564_0⟩ := Kd.at_int (Kd.R_reads' HO_6.out).2.2 (ji22) p564 q564
            cases e564
            replace p564 := eq_true p564
            replace q564 := eq_true q564
            refine start_ (n := 13) (S := fun w' => w'.cell? (ad564.add ((ji22)).toNat) = some (.int .i64 (rd x6_2 (ji22)))) (ds := [10, 11]) #[false, false, false, false, false, false, false, false, false, false, false, false, false] (by kernel_rfl) rfl rfl (hx564_0) (fun hHeld => ?_); refine with_tabW peristyleref2_reader_dict.tab7 peristyleref2_reader_dict.bits7 (fun HT_ HW_ => ?_)
            generalize wr.drew = w29 at HO_6 HI0 HK HB hx564_0 hHeld ⊢
            refine pure_ (i := 0) (N := some 39) (v := ?_) (a' := ?_) #[true, false, false, false, false, false, false, false, false, false, false, false, false] rfl rfl (any_of HT_.out (by kernel_rfl)) (fun _ _ _ h => h) (Or.inl ⟨by rfl, ?_⟩) ?_ ?_
            rotate_left
            ·intro w'
             go_simp
             with_reducible rfl
            rotate_left
            ·simp only [Act.put, List.setIfInBounds_toArray, List.set_cons_zero, List.set_cons_succ, i64_w, i32_w]
             rfl
            refine pure_ (i := 1) (N := some 40) (v := ?_) (a' := ?_) #[true, true, false, false, false, false, false, false, false, false, false, false, false] rfl rfl (any_of HT_.out (by kernel_rfl)) (fun _ _ _ h => h) (Or.inl ⟨by rfl, ?_⟩) ?_ ?_
            rotate_left
            ·intro w'
             go_simp
             with_reducible rfl
            rotate_left
            ·simp only [Act.put, List.setIfInBounds_toArray, List.set_cons_zero, List.set_cons_succ, i64_w, i32_w]
             rfl
            refine pure_ (i := 2) (N := some 41) (v := ?_) (a' := ?_) #[true, true, true, false, false, false, false, false, false, false, false, false, false] rfl rfl (any_of HT_.out (by kernel_rfl)) (fun _ _ _ h => h) (Or.inl ⟨by rfl, ?_⟩) ?_ ?_
            rotate_left
            ·intro w'
             go_simp
             with_reducible rfl
            rotate_left
            ·simp only [Act.put, List.setIfInBounds_toArray, List.set_cons_zero, List.set_cons_succ, i64_w, i32_w]
             rfl
            refine pure_ (i := 3) (N := some 42) (v := ?_) (a' := ?_) #[true, true, true, true, false, false, false, false, false, false, false, false, false] rfl rfl (any_of HT_.out (by kernel_rfl)) (fun _ _ _ h => h) (Or.inl ⟨by rfl, ?_⟩) ?_ ?_
            rotate_left
            ·intro w'
             go_simp
             with_reducible rfl
            rotate_left
            ·simp only [Act.put, List.setIfInBounds_toArray, List.set_cons_zero, List.set_cons_succ, i64_w, i32_w]
             rfl
            refine pure_ (i := 4) (N := some 43) (v := ?_) (a' := ?_) #[true, true, true, true, true, false, false, false, false, false, false, false, false] rfl rfl (any_of HT_.out (by kernel_rfl)) (fun _ _ _ h => h) (Or.inl ⟨by rfl, ?_⟩) ?_ ?_
            rotate_left
            ·intro w'
             go_simp
             with_reducible rfl
            rotate_left
            ·simp only [Act.put, List.setIfInBounds_toArray, List.set_cons_zero, List.set_cons_succ, i64_w, i32_w]
             rfl
            refine pure_ (i := 5) (N := some 44) (v := ?_) (a' := ?_) #[true, true, true, true, true, true, false, false, false, false, false, false, false] rfl rfl (any_of HT_.out (by kernel_rfl)) (fun _ _ _ h => h) (Or.inl ⟨by rfl, ?_⟩) ?_ ?_
            rotate_left
            ·intro w'
             go_simp
             with_reducible rfl
            rotate_left
            ·simp only [Act.put, List.setIfInBounds_toArray, List.set_cons_zero, List.set_cons_succ, i64_w, i32_w]
             rfl
            refine pure_ (i := 7) (N := some 46) (v := ?_) (a' := ?_) #[true, true, true, true, true, true, false, true, false, false, false, false, false] rfl rfl (any_of HT_.out (by kernel_rfl)) (fun _ _ _ h => h) (Or.inl ⟨by rfl, ?_⟩) ?_ ?_
            rotate_left
            ·intro w'
             go_simp
             with_reducible rfl
            rotate_left
            ·simp only [Act.put, List.setIfInBounds_toArray, List.set_cons_zero, List.set_cons_succ, i64_w, i32_w]
             rfl
            refine take_ (i := 6) (N := some 45) (v := ?_) (a' := ?_) #[true, true, true, true, true, true, true, true, false, false, false, false, false] rfl rfl (take_ofW HT_.out HW_.out (by kernel_rfl)) (fun _ _ _ h => h) (Or.inl ⟨by rfl, ?_⟩) hHeld ?_ ?_
            rotate_left
            ·intro w' s0
             go_simp
             with_reducible rfl
            rotate_left
            ·simp only [Act.put, List.setIfInBounds_toArray, List.set_cons_zero, List.set_cons_succ, i64_w, i32_w]
             rfl
            refine one_ (i := 8) (N := some 47) #[true, true, true, true, true, true, true, true, true, false, false, false, false] rfl rfl (one_of HT_.out (by kernel_rfl)) (by decide) (fun K hK => ?_)
            refine goes_ Try.func60 (by kernel_rfl) rfl #[.pointer (some ⟨g, 0, none⟩)] (by rfl) rfl rfl (by (try simp only [List.map_toArray, List.map_cons, List.map_nil]); rfl) ?_
            with_reducible refine (peristyleref2_reader_count.calls k2 g x1000_2 false t565 t566 t567 w0 _ ?side1 ?side2 A25.out).mono ?_
            (case side1 => exact HI0.out)
            (case side2 => exact HB.out)
            rintro e w30 ⟨rfl, hi, hb, hk⟩
            have HS0_ := keep_cell hk (hHeld) (by (rw [add_block]; exact Kd.own_blk (IsS75.own_ne HI0.out HO_6.out (by decide))))
            refine ⟨_, rfl, ?_⟩
            have n0_ := Aside0.mk (Kd.R_mono (Kd.R_keep (IsS75.apart (show IsS75 w0 _ g x1000_2 false from by exact HI0.out) (by exact HO_6.out) (by decide)) hk (fun _ h => h.2)) (fun _ h => h.1))
            have n1_ := Aside0.mk (KeepBut.trans (by exact HK.out) hk (.inl rfl))
            have n2_ := Aside0.mk (hb)
            have n3_ := Aside0.mk (hi)
            clear HO_6
            clear HK
            clear HB
            clear HI0
            have HO_6 := n0_
            have HK := n1_
            have HB := n2_
            have HI0 := n3_
            clear n0_ n1_ n2_ n3_
            (try clear hb)
            (try clear hb2)
            (try clear hk)
            (try clear hi)
            refine hK.out _ _ (HS0_) (fun hHeld => ?_)
            clear hK K
            refine norm_ (a' := ?_) ?_ ?_
            rotate_left
            ·show Act.put _ (some 47) _ = _
             simp only [Act.put, List.setIfInBounds_toArray, List.set_cons_zero, List.set_cons_succ, i64_w, i32_w]
             rfl
            refine pure_ (i := 9) (N := some 48) (v := ?_) (a' := ?_) #[true, true, true, true, true, true, true, true, true, true, false, false, false] rfl rfl (any_of HT_.out (by kernel_rfl)) (fun _ _ _ h => h) (Or.inl ⟨by rfl, ?_⟩) ?_ ?_
            rotate_left
            ·intro w'
             go_simp
             with_reducible rfl
            rotate_left
            ·simp only [Act.put, List.setIfInBounds_toArray, List.set_cons_zero, List.set_cons_succ, i64_w, i32_w]
             rfl
            refine last_ (i := 10) (N := some 49) #[true, true, true, true, true, true, true, true, true, true, true, false, false] rfl rfl (one_of HT_.out (by kernel_rfl)) (by decide) (fun K hK => ?_)
            refine value_ (w1 := ?_) (v := ?_) (by rfl) rfl ?_ ?_
            rotate_left 2
            ·go_simp
             constructor
             ·rfl
             ·rfl
            refine hK.out _ _ ?_
            clear hK K
            refine norm_ (a' := ?_) ?_ ?_
            rotate_left
            ·show Act.put _ (some 49) _ = _
             simp only [Act.put, List.setIfInBounds_toArray, List.set_cons_zero, List.set_cons_succ, i64_w, i32_w]
             rfl
            refine last_ (i := 11) (N := some 50) #[true, true, true, true, true, true, true, true, true, true, true, true, false] rfl rfl (one_of HT_.out (by kernel_rfl)) (by decide) (fun K hK => ?_)
            refine Kd.R_append_step (Kd.int .i64) w.heap.size (by rfl) (.tmp 39) (.tmp 49) 22 3 (.int .i64 0) 8 rfl Try.underlying22 info3 rfl (by decide) (by omega) (.slice (some ad564) x6_2.length co27) x6_2 (wrap64 ((rd x6_2 (ji22)) + t565)) [.int .i64 (wrap64 ((rd x6_2 (ji22)) + t565))] (fun _ => True) (fun _ => False) rfl rfl ?aP (fun _ hk => hk.elim) ?aF ?aO (Below.refl _ _) ?aS ?aL ?_
            (case aP => exact rfl)
            (case aF => exact (fun _ _ => trivial))
            (case aO => exact (by exact HO_6.out))
            (case aS => exact (keep_size (w := w) (g := g) (row := none) (by exact HK.out)))
            (case aL => have := LMc26.out; omega)
            intro v569 w31 ho hb hg hat
            rw [← Ny568.out] at ho
            have n0_ := Aside0.mk (IsS75.grown (by exact HI0.out) hg (IsS75.own_ne HI0.out HO_6.out (by decide)))
            have n1_ := Aside0.mk (below_weaken (by exact HB.out) HL.out hb)
            have n2_ := Aside0.mk (KeepBut.trans (by exact HK.out) (KeepBut.of_grown hg g) (Kd.R_base2 HO_6.out))
            have n3_ := Aside0.mk (ho)
            clear HI0
            clear HB
            clear HK
            clear HO_6
            have HI0 := n0_
            have HB := n1_
            have HK := n2_
            have HO570 := n3_
            clear n0_ n1_ n2_ n3_
            clear ho hb hg hat
            refine hK.out _ _ ?_
            clear hK K
            refine norm_ (a' := ?_) ?_ ?_
            rotate_left
            ·show Act.put _ (some 50) _ = _
             simp only [Act.put, List.setIfInBounds_toArray, List.set_cons_zero, List.set_cons_succ, i64_w, i32_w]
             rfl
            refine pure_ (i := 12) (N := some 6) (v := ?_) (a' := ?_) #[true, true, true, true, true, true, true, true, true, true, true, true, true] rfl rfl (any_of HT_.out (by kernel_rfl)) (fun _ _ _ h => h) (Or.inl ⟨by rfl, ?_⟩) ?_ ?_
            rotate_left
            ·intro w'
             go_simp
             with_reducible rfl
            rotate_left
            ·simp only [Act.put, List.setIfInBounds_toArray, List.set_cons_zero, List.set_cons_succ, i64_w, i32_w]
             rfl
            refine done_ (done_of HT_.out (by kernel_rfl)) ?_
            try go_wp2
            go_roundg k2
            case measure => have := HJ3.out; have := HK2.out; omega
            case rel => exact ⟨(y568), (t566), (t567), H', ⟨by have := HJ3.out; have := HK2.out; omega⟩, ⟨by exact HO570.out⟩, ⟨by exact HI0.out⟩, ⟨by exact HK.out⟩, ⟨by exact HB.out⟩⟩
           ·rw [if_neg c26] at H
            exact absurd H (by simp)
          ·rw [if_neg c24] at H
           exact absurd H (by simp)
         ·rw [if_neg c23] at H
          exact absurd H (by simp)
       ·rw [if_neg c18] at H
        have c18b0 : decide ((x6_2.length : Int) < t555) = false := decide_eq_false c18
        clear c18
        (skip)
        (try rw [c18b1])
        have H' := Aside0.mk H
        clear H
        obtain ⟨Ao32, co32, eo32⟩ := Kd.R_slice HO_6.out
        subst eo32
        go_wp2
        go_meet
        case rel => exact ⟨_, (x6_2), (x1000_2), (x1001_2), H', ⟨by have := HJ3.out; have := HK2.out; omega⟩, ⟨by exact HO_6.out⟩, ⟨by exact HI0.out⟩, ⟨by exact HK.out⟩, ⟨by exact HB.out⟩⟩
    case rest =>
     clear HC14
     obtain ⟨kq, x6_13, x1000_13, x1001_13, HA, HJ13, HO_6, HI0, HK, HB⟩ := hcut
     cases kq with
     | zero => exact absurd HA.out (by simp [peristyleref2_reader_dict.j2])
     | succ kj13 =>
      have H := HA.out
      clear HA
      simp only [peristyleref2_reader_dict.j2] at H
      by_cases c33 : x1001_13 = true
      ·subst c33
       have H1 : (some (([] : List Int), x1000_13, true)) = some (r1, r2, r3) := by rw [if_pos rfl] at H; exact H
       clear H
       have H := H1
       clear H1
       simp only [Option.some.injEq, Prod.mk.injEq] at H
       obtain ⟨rfl, rfl, rfl⟩ := H
       obtain ⟨ASz34_0, cSz34_0, HGz34, hgz34, HSz34_0⟩ := HI0.out
       have hcz34_0 := cellS75_0 HGz34
       have hcz34_1 := cellS75_1 HGz34
       have hfz34_0 := blk_frozen HGz34 0
       have hfz34_1 := blk_frozen HGz34 1
       have HCSz34_0 := HSz34_0.1
       replace HSz34_0 := HSz34_0.2
       clear HGz34 hgz34
       go_wp2
       go_ret
       exact ⟨_, by rfl, by exact Kd.R_nil _ _ _ _ _, by exact HI0.out, by exact HB.out, by exact HK.out⟩
      ·replace c33 := Bool.eq_false_iff.mpr c33
       subst c33
       have H1 : ((peristyleref2_width.f (wrap64 (t555 - 1))).bind fun t571 => ((peristyleref2_reader_unpacked.f kj13 x1000_13 false a1 t571).bind fun bt572 => ((peristyleref2_reader_picked.f kj13 bt572.2.1 bt572.2.2 bt572.1 x6_13).bind fun bt577 => (some (bt577.1, bt577.2.1, bt577.2.2))))) = some (r1, r2, r3) := by rw [if_neg (show ¬ (false = true) by decide)] at H; exact H
       clear H
       have H := H1
       clear H1
       replace H := Option.bind_eq_some_iff.mp H
       obtain ⟨t571, A350, H⟩ := H
       replace H : ((peristyleref2_reader_unpacked.f kj13 x1000_13 false a1 t571).bind fun bt572 => ((peristyleref2_reader_picked.f kj13 bt572.2.1 bt572.2.2 bt572.1 x6_13).bind fun bt577 => (some (bt577.1, bt577.2.1, bt577.2.2)))) = some (r1, r2, r3) := H
       have A35 := Aside0.mk A350
       clear A350
       replace H := Option.bind_eq_some_iff.mp H
       obtain ⟨⟨t572, t575, t576⟩, A360, H⟩ := H
       replace H : ((peristyleref2_reader_picked.f kj13 t575 t576 t572 x6_13).bind fun bt577 => (some (bt577.1, bt577.2.1, bt577.2.2))) = some (r1, r2, r3) := H
       have A36 := Aside0.mk A360
       clear A360
       replace H := Option.bind_eq_some_iff.mp H
       obtain ⟨⟨t577, t580, t581⟩, A370, H⟩ := H
       replace H : (some (t577, t580, t581)) = some (r1, r2, r3) := H
       have A37 := Aside0.mk A370
       clear A370
       simp only [Option.some.injEq, Prod.mk.injEq] at H
       obtain ⟨rfl, rfl, rfl⟩ := H
       obtain ⟨ASz38_0, cSz38_0, HGz38, hgz38, HSz38_0⟩ := HI0.out
       have hcz38_0 := cellS75_0 HGz38
       have hcz38_1 := cellS75_1 HGz38
       have hfz38_0 := blk_frozen HGz38 0
       have hfz38_1 := blk_frozen HGz38 1
       have HCSz38_0 := HSz38_0.1
       replace HSz38_0 := HSz38_0.2
       clear HGz38 hgz38
       go_wp2_with (first | ((with_reducible refine gate_callee (f := 104) rfl ?_); refine goesL_ (some 60) rfl rfl Try.func104 (by kernel_rfl) rfl #[.int .i64 (wrap64 (t555 - 1))] rfl (by (try simp only [List.map_toArray, List.map_cons, List.map_nil]); rfl) ?_; (with_reducible refine (peristyleref2_width.calls (wrap64 (t555 - 1)) t571 _ A35.out).mono ?_); rintro e w' ⟨rfl, ⟨nd, rfl⟩⟩; refine ⟨_, rfl, ?_⟩) | ((with_reducible refine gate_callee (f := 89) rfl ?_); refine goesL_ (some 61) rfl rfl Try.func89 (by kernel_rfl) rfl #[.pointer (some ⟨g, 0, none⟩), .int .i64 a1, .int .i64 t571] rfl (by (try simp only [List.map_toArray, List.map_cons, List.map_nil]); rfl) ?_; (with_reducible refine (peristyleref2_reader_unpacked.calls kj13 g x1000_13 false a1 t571 t572 t575 t576 w0 _ ?side1 ?side2 A36.out).mono ?_); (case side1 => repeat ((with_reducible first | exact HI0.out | apply IsS75.drewN ))); (case side2 => repeat ((with_reducible first | exact HB.out | apply pw_below_drewN ))); rintro e w39 ⟨v573, rfl, ho0, hi, hb, hk⟩; refine ⟨_, rfl, ?_⟩; have n0_ := Aside0.mk (Kd.R_mono (Kd.R_told (Kd.R_oldK (IsS75.apart (show IsS75 w0 _ g x1000_13 false from by repeat ((with_reducible first | exact HI0.out | apply IsS75.drewN ))) (by (with_reducible repeat (apply Kd.R_drewN)); exact HO_6.out) (by decide)) hk) (Kd.R_base ho0)) (fun _ h_ => h_.1)); have n1_ := Aside0.mk (Kd.R_lower (Kd.R_new' ho0 (Kd.R_lt (by (with_reducible repeat (apply Kd.R_drewN)); exact HO_6.out))) (keep_size (w := w) (g := g) (row := none) (by repeat ((with_reducible first | exact HK.out | apply keep_drewN ))))); have n2_ := Aside0.mk (KeepBut.trans (by repeat ((with_reducible first | exact HK.out | apply keep_drewN ))) hk (.inl rfl)); have n3_ := Aside0.mk (hb); have n4_ := Aside0.mk (hi); clear HO_6; clear HK; clear HB; clear HI0; have HO_6 := n0_; have HO574 := n1_; have HK := n2_; have HB := n3_; have HI0 := n4_; clear n0_ n1_ n2_ n3_ n4_; (try clear hb); (try clear hk); (try clear hi); (try clear ho0); obtain ⟨Ao40, co40, eo40⟩ := Kd.R_slice HO574.out; subst eo40; obtain ⟨Ao41, co41, eo41⟩ := Kd.R_slice HO_6.out; subst eo41) | ((with_reducible refine gate_callee (f := 117) rfl ?_); refine goesL_ (some 63) rfl rfl Try.func117 (by kernel_rfl) rfl #[.pointer (some ⟨g, 0, none⟩), .slice Ao40 t572.length co40, .slice Ao41 x6_13.length co41] rfl (by (try simp only [List.map_toArray, List.map_cons, List.map_nil]); rfl) ?_; (with_reducible refine (peristyleref2_reader_picked.calls kj13 g t575 t576 _ _ t572 _ _ x6_13 t577 t580 t581 w0 _ ?side1 ?side2 ?side3 ?side4 ?side5 ?side6 ?side7 ?side8 A37.out).mono ?_); (case side1 => exact HI0.out); (case side2 => exact HB.out); (case side3 => repeat (exact (Kd.R_reads' HO574.out).2.2)); (case side4 => exact (Kd.R_reads' HO574.out).2.1); (case side5 => exact far_slice (IsS75.own_ne HI0.out HO574.out (by decide))); (case side6 => repeat (exact (Kd.R_reads' HO_6.out).2.2)); (case side7 => exact (Kd.R_reads' HO_6.out).2.1); (case side8 => exact far_slice (IsS75.own_ne HI0.out HO_6.out (by decide))); rintro e w42 ⟨v578, rfl, ho0, hi, hb, hk⟩; refine ⟨_, rfl, ?_⟩; have n0_ := Aside0.mk (Kd.R_mono (Kd.R_told (Kd.R_oldK (IsS75.apart (show IsS75 w0 _ g t575 t576 from by exact HI0.out) (by exact HO_6.out) (by decide)) hk) (Kd.R_base ho0)) (fun _ h_ => h_.1)); have n1_ := Aside0.mk (Kd.R_mono (Kd.R_told (Kd.R_oldK (IsS75.apart (show IsS75 w0 _ g t575 t576 from by exact HI0.out) (by exact HO574.out) (by decide)) hk) (Kd.R_base ho0)) (fun _ h_ => h_.1)); have n2_ := Aside0.mk (Kd.R_lower (Kd.R_new' (Kd.R_new' ho0 (Kd.R_lt (by exact HO_6.out))) (Kd.R_lt (by exact HO574.out))) (keep_size (w := w) (g := g) (row := none) (by exact HK.out))); have n3_ := Aside0.mk (KeepBut.trans (by exact HK.out) hk (.inl rfl)); have n4_ := Aside0.mk (hb); have n5_ := Aside0.mk (hi); clear HO_6; clear HO574; clear HK; clear HB; clear HI0; have HO_6 := n0_; have HO574 := n1_; have HO579 := n2_; have HK := n3_; have HB := n4_; have HI0 := n5_; clear n0_ n1_ n2_ n3_ n4_ n5_; (try clear hb); (try clear hk); (try clear hi); (try clear ho0)))
       go_ret
       exact ⟨_, by rfl, by exact Kd.R_mono HO579.out (fun _ hk => trivial), by exact HI0.out, by exact HB.out, by exact HK.out⟩

end Go.Proofs.Ythhdihnaicggiaa.I
