/- Printed by a program of this session (wip/tools/printh.py over the kit's printer): Lean functions that answer as the Go functions do, with the proofs of it. No conditions beyond those in each theorem. -/
import Derived.Test.YthhdihnaicggiaaI0
import Derived.Test.YthhdihnaicggiaaI1
import Derived.Test.YthhdihnaicggiaaI9
import Derived.Test.YthhdihnaicggiaaI10
import Derived.Test.YthhdihnaicggiaaI11
namespace Go.Proofs.Ythhdihnaicggiaa.I
open Go.RowKit Go.Proofs.YthhdihnaicggiaaW.PrintWords Go.Proofs.YthhdihnaicggiaaW.PrintLast Go.Proofs.YthhdihnaicggiaaW.PrintMore
attribute [local go_sem] max2_int min2_int max_two min_two max_three min_three max_four min_four   -- for this text's walks alone
set_option linter.unusedVariables false
set_option linter.unusedSimpArgs false

/-! ### peristyleref2_frame: function 84 -/
def peristyleref2_frame.l0 : Nat → Int → Int → List Int → List Int → Int → Int → Option (List Int)
 | 0, _, _, _, _, _, _ => none
 | k + 1, x3, x4, x5, x19, x20, x21 => if x21 < x20 then (if 0 ≤ x21 then (if x21 < (x19.length : Int) then (if x21 < (x5.length : Int) then (peristyleref2_frame.l0 k x3 x4 (x5.set (x21 : Int).toNat (wrap64 ((rd x19 x21) - x3))) x19 x20 (wrap64 (x21 + 1))) else (none)) else (none)) else (none)) else ((peristyleref2_number.f k x3).bind fun t452 => (if t452.length < 140737488355328 then ((some (t452 ++ [(x4) % 256] : List Int)).bind fun y455 => ((peristyleref2_packed.f k x5 x4).bind fun t458 => (if y455.length + t458.length < 140737488355328 then (some (y455 ++ t458)) else (none)))) else (none)))
def peristyleref2_frame.f (k : Nat) (l0 : List Int) : Option (List Int) := (slices_Min_int_int.f l0).bind fun t443 => ((slices_Max_int_int.f l0).bind fun t444 => ((slices_Min_int_int.f l0).bind fun t445 => ((peristyleref2_width.f (wrap64 (t444 - t445))).bind fun t446 => (if 0 ≤ (l0.length : Int) then (if ((l0.length : Int) : Int).toNat ≤ 35184372088832 then (peristyleref2_frame.l0 k t443 t446 (List.replicate ((l0.length : Int) : Int).toNat 0) l0 (l0.length : Int) 0) else (none)) else (none)))))
theorem peristyleref2_frame.mono_l : ∀ k, (∀ y0 y1 y2 y3 y4 y5, LeO (peristyleref2_frame.l0 k y0 y1 y2 y3 y4 y5) (peristyleref2_frame.l0 (k + 1) y0 y1 y2 y3 y4 y5))
 | 0 => fun _ _ _ _ _ _ r h => by simp [peristyleref2_frame.l0] at h
 | k + 1 => by
  have ih0 := peristyleref2_frame.mono_l k
  ·intro y0 y1 y2 y3 y4 y5
   unfold peristyleref2_frame.l0
   repeat' first
   | (with_reducible exact ih0 _ _ _ _ _ _)
   | (with_reducible exact peristyleref2_number.mono _ _)
   | (with_reducible exact peristyleref2_packed.mono _ _ _)
   | (with_reducible exact LeO.refl _)
   | (with_reducible refine LeO.ite ?_ ?_)
   | (with_reducible refine LeO.bind ?_ (fun _ => ?_))
theorem peristyleref2_frame.mono : ∀ a0 k, LeO (peristyleref2_frame.f k a0) (peristyleref2_frame.f (k + 1) a0) := by
 intro a0 k
 have ih0 := peristyleref2_frame.mono_l k
 unfold peristyleref2_frame.f
 repeat' first
  | (with_reducible exact ih0 _ _ _ _ _ _)
  | (with_reducible exact LeO.refl _)
  | (with_reducible refine LeO.ite ?_ ?_)
  | (with_reducible refine LeO.bind ?_ (fun _ => ?_))
set_option maxHeartbeats 8000000 in
set_option maxRecDepth 100000 in
theorem peristyleref2_frame.calls (k : Nat) (A0 : Option Addr) (c0 : Nat) (l0 : List Int) (r : List Int) (w : World) (hr0 : Kd.C (Kd.int .i64) w A0 l0.length l0) (hc0 : l0.length ≤ c0) (h : peristyleref2_frame.f k l0 = some r) :
 Calls Try.prog 84 #[.slice A0 l0.length c0] w fun e w' => ∃ v0_ : Value, e = .returned (v0_) ∧ Kd.R (Kd.int .u8) 5 w' w.heap.size (fun _ => True) v0_ r ∧ Below w.heap.size w w' := by
 have HR0 := Aside0.mk hr0
 have HC0 := Aside0.mk hc0
 clear hr0 hc0
 have HB := Aside0.mk (Below.refl w.heap.size w)
 have H : ((slices_Min_int_int.f l0).bind fun t443 => ((slices_Max_int_int.f l0).bind fun t444 => ((slices_Min_int_int.f l0).bind fun t445 => ((peristyleref2_width.f (wrap64 (t444 - t445))).bind fun t446 => (if 0 ≤ (l0.length : Int) then (if ((l0.length : Int) : Int).toNat ≤ 35184372088832 then (peristyleref2_frame.l0 k t443 t446 (List.replicate ((l0.length : Int) : Int).toNat 0) l0 (l0.length : Int) 0) else (none)) else (none)))))) = some r := h
 clear h
 replace H := Option.bind_eq_some_iff.mp H
 obtain ⟨t443, A20, H⟩ := H
 replace H : ((slices_Max_int_int.f l0).bind fun t444 => ((slices_Min_int_int.f l0).bind fun t445 => ((peristyleref2_width.f (wrap64 (t444 - t445))).bind fun t446 => (if 0 ≤ (l0.length : Int) then (if ((l0.length : Int) : Int).toNat ≤ 35184372088832 then (peristyleref2_frame.l0 k t443 t446 (List.replicate ((l0.length : Int) : Int).toNat 0) l0 (l0.length : Int) 0) else (none)) else (none))))) = some r := H
 have A2 := Aside0.mk A20
 clear A20
 replace H := Option.bind_eq_some_iff.mp H
 obtain ⟨t444, A30, H⟩ := H
 replace H : ((slices_Min_int_int.f l0).bind fun t445 => ((peristyleref2_width.f (wrap64 (t444 - t445))).bind fun t446 => (if 0 ≤ (l0.length : Int) then (if ((l0.length : Int) : Int).toNat ≤ 35184372088832 then (peristyleref2_frame.l0 k t443 t446 (List.replicate ((l0.length : Int) : Int).toNat 0) l0 (l0.length : Int) 0) else (none)) else (none)))) = some r := H
 have A3 := Aside0.mk A30
 clear A30
 replace H := Option.bind_eq_some_iff.mp H
 obtain ⟨t445, A40, H⟩ := H
 replace H : ((peristyleref2_width.f (wrap64 (t444 - t445))).bind fun t446 => (if 0 ≤ (l0.length : Int) then (if ((l0.length : Int) : Int).toNat ≤ 35184372088832 then (peristyleref2_frame.l0 k t443 t446 (List.replicate ((l0.length : Int) : Int).toNat 0) l0 (l0.length : Int) 0) else (none)) else (none))) = some r := H
 have A4 := Aside0.mk A40
 clear A40
 replace H := Option.bind_eq_some_iff.mp H
 obtain ⟨t446, A50, H⟩ := H
 replace H : (if 0 ≤ (l0.length : Int) then (if ((l0.length : Int) : Int).toNat ≤ 35184372088832 then (peristyleref2_frame.l0 k t443 t446 (List.replicate ((l0.length : Int) : Int).toNat 0) l0 (l0.length : Int) 0) else (none)) else (none)) = some r := H
 have A5 := Aside0.mk A50
 clear A50
 by_cases c6 : 0 ≤ (l0.length : Int)
 ·rw [if_pos c6] at H
  have c6b0 := eq_true c6
  have c6b1 : decide (0 ≤ (l0.length : Int)) = true := decide_eq_true c6
  clear c6
  by_cases c7 : ((l0.length : Int) : Int).toNat ≤ 35184372088832
  ·rw [if_pos c7] at H
   have c7b0 := eq_true c7
   have c7b1 : decide (((l0.length : Int) : Int).toNat ≤ 35184372088832) = true := decide_eq_true c7
   clear c7
   obtain ⟨y447, hy447⟩ : ∃ y_ : List Int, y_ = (List.replicate ((l0.length : Int) : Int).toNat 0) := ⟨_, rfl⟩
   replace H : (peristyleref2_frame.l0 k t443 t446 y447 l0 (l0.length : Int) 0) = some r := by (rw [hy447]; with_reducible exact H)
   have Ny447 := Aside0.mk hy447
   clear hy447
   have H' := Aside0.mk H
   clear H
   go_enter Try.func84, Try.ntmps84
   go_wp2_with (first | ((with_reducible refine gate_callee (f := 30) rfl ?_); refine goesL_ (some 9) rfl rfl Try.func30 (by kernel_rfl) rfl #[.slice A0 l0.length c0] rfl (by (try simp only [List.map_toArray, List.map_cons, List.map_nil]); rfl) ?_; (with_reducible refine (slices_Min_int_int.calls _ _ l0 t443 _ ?side1 ?side2 A2.out).mono ?_); (case side1 => repeat (exact HR0.out)); (case side2 => exact HC0.out); rintro e w' ⟨rfl, ⟨nd, rfl⟩⟩; refine ⟨_, rfl, ?_⟩) | ((with_reducible refine gate_callee (f := 31) rfl ?_); refine goesL_ (some 11) rfl rfl Try.func31 (by kernel_rfl) rfl #[.slice A0 l0.length c0] rfl (by (try simp only [List.map_toArray, List.map_cons, List.map_nil]); rfl) ?_; (with_reducible refine (slices_Max_int_int.calls _ _ l0 t444 _ ?side1 ?side2 A3.out).mono ?_); (case side1 => repeat (exact HR0.out)); (case side2 => exact HC0.out); rintro e w' ⟨rfl, ⟨nd, rfl⟩⟩; refine ⟨_, rfl, ?_⟩) | ((with_reducible refine gate_callee (f := 30) rfl ?_); refine goesL_ (some 13) rfl rfl Try.func30 (by kernel_rfl) rfl #[.slice A0 l0.length c0] rfl (by (try simp only [List.map_toArray, List.map_cons, List.map_nil]); rfl) ?_; (with_reducible refine (slices_Min_int_int.calls _ _ l0 t445 _ ?side1 ?side2 A4.out).mono ?_); (case side1 => repeat (exact HR0.out)); (case side2 => exact HC0.out); rintro e w' ⟨rfl, ⟨nd, rfl⟩⟩; refine ⟨_, rfl, ?_⟩) | ((with_reducible refine gate_callee (f := 104) rfl ?_); refine goesL_ (some 15) rfl rfl Try.func104 (by kernel_rfl) rfl #[.int .i64 (wrap64 (t444 - t445))] rfl (by (try simp only [List.map_toArray, List.map_cons, List.map_nil]); rfl) ?_; (with_reducible refine (peristyleref2_width.calls (wrap64 (t444 - t445)) t446 _ A5.out).mono ?_); rintro e w' ⟨rfl, ⟨nd, rfl⟩⟩; refine ⟨_, rfl, ?_⟩) | ((with_reducible refine gate_dst (N := 18) rfl ?_); refine Kd.R_make (Kd.int .i64) _ 3 rfl (N := 18) rfl 22 _ _ rfl (l0.length : Int) rfl rfl Try.underlying22 (.int .i64 0) 8 info3 rfl (by decide) (by omega) 0 (ok := fun _ => True) (okp := fun _ => True) rfl (fun _ hk => hk) trivial (of_decide_eq_true (by (with_reducible assumption))) (Nat.le_trans (Nat.mul_le_mul_right _ (of_decide_eq_true (by (with_reducible assumption)) : (l0.length : Int).toNat ≤ 35184372088832)) (by omega)) (Below.refl _ _) (Nat.le_refl _) ?_; intro v448 w8 ho9 hb hg_ hnew_; clear hg_ hnew_; (rw [← Ny447.out] at ho9); have n0_ := Aside0.mk (Kd.R_lower ho9 (below_size (by repeat ((with_reducible first | exact HB.out | apply pw_below_drewN))))); have n1_ := Aside0.mk (below_step (by repeat ((with_reducible first | exact HB.out | apply pw_below_drewN))) hb); clear HB; have HO449 := n0_; have HB := n1_; clear n0_ n1_; clear hb ho9))
   go_loopg [21] k (fun kq v21 w' => ∃ (x5_1 : List Int) (x21_1 : Int), v21 = .int .i64 x21_1 ∧ Aside0 (peristyleref2_frame.l0 kq t443 t446 x5_1 l0 (l0.length : Int) x21_1 = some r) ∧ Aside0 (kq ≤ k) ∧ Aside0 (Kd.R (Kd.int .i64) 3 w' w.heap.size (fun _ => True) v448 x5_1) ∧ Aside0 (Below w.heap.size w w'))
   case atStart => exact ⟨(y447), (0), (by rfl), H', ⟨Nat.le_refl _⟩, ⟨by exact HO449.out⟩, ⟨by exact HB.out⟩⟩
   case round =>
    clear H'
    try clear c6b0
    try clear c6b1
    try clear c7b0
    try clear c7b1
    obtain ⟨x5_1, x21_1, rfl, HA, HK1, HO_5, HB⟩ := hrel
    cases gk with
    | zero => exact absurd HA.out (by simp [peristyleref2_frame.l0])
    | succ k1 =>
     have H := HA.out
     clear HA
     simp only [peristyleref2_frame.l0] at H
     by_cases c10 : x21_1 < (l0.length : Int)
     ·rw [if_pos c10] at H
      have c10b0 : decide (x21_1 < (l0.length : Int)) = true := decide_eq_true c10
      clear c10
      by_cases c11 : 0 ≤ x21_1
      ·rw [if_pos c11] at H
       have c11b0 : decide (0 ≤ x21_1) = true := decide_eq_true c11
       clear c11
       by_cases c12 : x21_1 < (l0.length : Int)
       ·rw [if_pos c12] at H
        have c12b0 : decide (x21_1 < (l0.length : Int)) = true := decide_eq_true c12
        clear c12
        by_cases c13 : x21_1 < (x5_1.length : Int)
        ·rw [if_pos c13] at H
         have c13b0 : decide (x21_1 < (x5_1.length : Int)) = true := decide_eq_true c13
         clear c13
         obtain ⟨y451, hy451⟩ : ∃ y_ : List Int, y_ = (x5_1.set (x21_1 : Int).toNat (wrap64 ((rd l0 x21_1) - t443))) := ⟨_, rfl⟩
         replace H : (peristyleref2_frame.l0 k1 t443 t446 y451 l0 (l0.length : Int) (wrap64 (x21_1 + 1))) = some r := by (rw [hy451]; with_reducible exact H)
         have Ny451 := Aside0.mk hy451
         clear hy451
         have H' := Aside0.mk H
         clear H
         have p450 : 0 ≤ (x21_1 : Int) := of_decide_eq_true (by (with_reducible assumption))
         have q450 : x21_1 < (l0.length : Int) := of_decide_eq_true (by (with_reducible assumption))
         obtain ⟨ad450, e450, hx450_0⟩ := Kd.at_int HR0.out x21_1 p450 q450
         cases e450
         replace hx450_0 := (HB.out.cell (World.block_lt_of_cell? w _ hx450_0)).trans hx450_0
         replace p450 := eq_true p450
         replace q450 := eq_true q450
         have p14 : 0 ≤ (x21_1 : Int) := of_decide_eq_true (by (with_reducible assumption))
         have q14 : (x21_1 : Int) < ((x5_1.length : Int) : Int) := of_decide_eq_true (by (with_reducible assumption))
         obtain ⟨go14, co14, eo14, gb14, gl14, cl14, HG14⟩ := Kd.R_form HO_5.out (by omega)
         (cases eo14)
         have GB14 := Aside0.mk gb14
         have GG14 := Aside0.mk HG14
         clear gb14 gl14 HG14
         obtain ⟨hx14_0, hf14_0⟩ := Kd.R_celln 0 HO_5.out (x21_1 : Int) p14 q14
         replace p14 := eq_true p14
         replace q14 := eq_true q14
         have HP15 := Kd.R_putg HO_5.out (x21_1 : Int) (wrap64 ((rd l0 x21_1) - t443))
         go_wp2_with (first | ((with_reducible refine gate_store (t := 3) (p := 31) rfl ?_); refine store_event (t := 3) (p := 31) (v := ?vo_w16) (w1 := (wr.setCell ⟨go14, (x21_1 : Int).toNat, none⟩ (.int .i64 (wrap64 ((rd l0 x21_1) - t443))))) ?hg ?ho ?hn ?hr ?_; (case ho => rfl); (case hg => rfl); (case hn => rfl); (case hr => (go_simp; done)); intro w16 hw; have hg : wr.grownBy w16 (some go14) := (by rw [hw]; exact HP15.2); have hp_ : Kd.R (Kd.int .i64) 3 w16 w.heap.size (fun _ => True) (.slice (some ⟨go14, 0, none⟩) x5_1.length co14) y451 := (by rw [hw, Ny451.out]; exact HP15.1); clear HP15; have n0_ := Aside0.mk (hp_); have n1_ := Aside0.mk ((by rw [hw]; exact below_set (HB.out) GB14.out : Below w.heap.size w w16)); clear HO_5; clear HB; have HO_5 := n0_; have HB := n1_; clear n0_ n1_; clear hg hw hp_))
         go_roundg k1
         case measure => have := HK1.out; omega
         case rel => exact ⟨(y451), (wrap64 (x21_1 + 1)), (by rfl), H', ⟨by have := HK1.out; omega⟩, ⟨by exact HO_5.out⟩, ⟨by exact HB.out⟩⟩
        ·rw [if_neg c13] at H
         exact absurd H (by simp)
       ·rw [if_neg c12] at H
        exact absurd H (by simp)
      ·rw [if_neg c11] at H
       exact absurd H (by simp)
     ·rw [if_neg c10] at H
      have c10b0 : decide (x21_1 < (l0.length : Int)) = false := decide_eq_false c10
      clear c10
      replace H := Option.bind_eq_some_iff.mp H
      obtain ⟨t452, A170, H⟩ := H
      replace H : (if t452.length < 140737488355328 then ((some (t452 ++ [(t446) % 256] : List Int)).bind fun y455 => ((peristyleref2_packed.f k1 x5_1 t446).bind fun t458 => (if y455.length + t458.length < 140737488355328 then (some (y455 ++ t458)) else (none)))) else (none)) = some r := H
      have A17 := Aside0.mk A170
      clear A170
      by_cases c18 : t452.length < 140737488355328
      ·rw [if_pos c18] at H
       have LMc18 := Aside0.mk c18
       clear c18
       obtain ⟨y455, hy455⟩ : ∃ y_ : List Int, y_ = (t452 ++ [(t446) % 256]) := ⟨_, rfl⟩
       replace H : ((peristyleref2_packed.f k1 x5_1 t446).bind fun t458 => (if y455.length + t458.length < 140737488355328 then (some (y455 ++ t458)) else (none))) = some r := by (have H2_ := (Option.bind_some _ _).symm.trans H; rw [hy455]; with_reducible exact H2_)
       have Ny455 := Aside0.mk hy455
       clear hy455
       replace H := Option.bind_eq_some_iff.mp H
       obtain ⟨t458, A190, H⟩ := H
       replace H : (if y455.length + t458.length < 140737488355328 then (some (y455 ++ t458)) else (none)) = some r := H
       have A19 := Aside0.mk A190
       clear A190
       by_cases c20 : y455.length + t458.length < 140737488355328
       ·rw [if_pos c20] at H
        have LMc20 := Aside0.mk c20
        clear c20
        obtain ⟨y461, hy461⟩ : ∃ y_ : List Int, y_ = (y455 ++ t458) := ⟨_, rfl⟩
        replace H : (some y461) = some r := by (rw [hy461]; with_reducible exact H)
        have Ny461 := Aside0.mk hy461
        clear hy461
        obtain rfl := Option.some.inj H
        go_wp2_with (first | ((with_reducible refine gate_callee (f := 81) rfl ?_); refine goesL_ (some 34) rfl rfl Try.func81 (by kernel_rfl) rfl #[.int .i64 t443] rfl (by (try simp only [List.map_toArray, List.map_cons, List.map_nil]); rfl) ?_; (with_reducible refine (peristyleref2_number.calls k1 t443 t452 _ A17.out).mono ?_); rintro e w21 ⟨v453, rfl, ho0, hb⟩; refine ⟨_, rfl, ?_⟩; have n0_ := Aside0.mk (Kd.R_below (by exact HO_5.out) hb); have n1_ := Aside0.mk (Kd.R_lower ho0 (below_size (by exact HB.out))); have n2_ := Aside0.mk (below_step (by exact HB.out) hb); clear HO_5; clear HB; have HO_5 := n0_; have HO454 := n1_; have HB := n2_; clear n0_ n1_ n2_; (try clear hb); (try clear ho0)) | ((with_reducible refine gate_builtin (b := .append) (xs := #[.tmp 34, .tmp 37]) rfl ?_); at_builtin; refine Kd.R_append (Kd.int .u8) (w0 := w) w.heap.size rfl (.tmp 34) (.tmp 37) 27 5 (.int .u8 0) 1 rfl Try.underlying27 info5 rfl (by decide) (by omega) v453 t452 ((t446) % 256) [.int .u8 ((t446) % 256)] (fun _ => True) (fun _ => False) rfl rfl ?aP (fun _ hk => hk.elim) ?aF ?aO ?aB ?aS ?aL ?_; (case aP => exact rfl); (case aB => exact (by exact HB.out)); (case aF => exact (fun _ _ => trivial)); (case aO => exact (by exact HO454.out)); (case aS => exact (below_size (by exact HB.out))); (case aL => have := LMc18.out; omega); intro v456 w22 ho hb hg hat; rw [← Ny455.out] at ho; have n0_ := Aside0.mk (Kd.R_over' (by exact HO_5.out) (Kd.R_typed (by exact HO454.out)) (by decide) hg); have n1_ := Aside0.mk (hb); have n2_ := Aside0.mk (ho); clear HO_5; clear HB; clear HO454; have HO_5 := n0_; have HB := n1_; have HO457 := n2_; clear n0_ n1_ n2_; clear ho hb hg hat; obtain ⟨Ao23, co23, eo23⟩ := Kd.R_slice HO_5.out; subst eo23) | ((with_reducible refine gate_callee (f := 103) rfl ?_); refine goesL_ (some 41) rfl rfl Try.func103 (by kernel_rfl) rfl #[.slice Ao23 x5_1.length co23, .int .i64 t446] rfl (by (try simp only [List.map_toArray, List.map_cons, List.map_nil]); rfl) ?_; (with_reducible refine (peristyleref2_packed.calls k1 _ _ x5_1 t446 t458 _ ?side1 ?side2 A19.out).mono ?_); (case side1 => repeat (exact (Kd.R_reads' HO_5.out).2.2)); (case side2 => exact (Kd.R_reads' HO_5.out).2.1); rintro e w24 ⟨v459, rfl, ho0, hb⟩; refine ⟨_, rfl, ?_⟩; have n0_ := Aside0.mk (Kd.R_below (by exact HO_5.out) hb); have n1_ := Aside0.mk (Kd.R_elder' (by exact HO457.out) (Kd.R_base ho0) hb); have n2_ := Aside0.mk (Kd.R_lower (Kd.R_new' ho0 (Kd.R_lt (by exact HO457.out))) (below_size (by exact HB.out))); have n3_ := Aside0.mk (below_step (by exact HB.out) hb); clear HO_5; clear HO457; clear HB; have HO_5 := n0_; have HO457 := n1_; have HO460 := n2_; have HB := n3_; clear n0_ n1_ n2_ n3_; (try clear hb); (try clear ho0); obtain ⟨Ao26, co26, eo26⟩ := Kd.R_slice HO460.out; subst eo26) | ((with_reducible refine gate_builtin (b := .append) (xs := #[.tmp 38, .tmp 41]) rfl ?_); at_builtin; refine Kd.R_append_rows (Kd.int .u8) (w0 := w) w.heap.size rfl (.tmp 38) (.tmp 41) 27 5 (.int .u8 0) 1 rfl Try.underlying27 info5 rfl (by decide) (by omega) v456 y455 t458 _ _ _ (fun k_ => some k_ ≠ (.slice Ao26 t458.length co26 : Value).ownBlock) (fun _ => False) rfl rfl ?aO ?aR (fun _ _ h => h) (fun _ h => h.elim) ?aF ?aB ?aS ?aL ?_; (case aR => repeat (exact (Kd.R_reads' HO460.out).2.2)); (case aB => exact (by exact HB.out)); (case aF => exact (fun k_ hk => Kd.fresh' (Kd.R_lt (by exact HO460.out)) k_ hk)); (case aO => exact (by exact Kd.R_mono HO457.out (fun _ hk => hk.2))); (case aS => exact (below_size (by exact HB.out))); (case aL => have := LMc20.out; omega); intro v462 w25 ho hb hg hat; rw [← Ny461.out] at ho; have n0_ := Aside0.mk (Kd.R_over' (by exact HO_5.out) (Kd.R_typed (by exact HO457.out)) (by decide) hg); have n1_ := Aside0.mk (Kd.R_after (ok := (fun _ => True)) (by exact HO460.out) hg hat); have n2_ := Aside0.mk (hb); have n3_ := Aside0.mk (ho); clear HO_5; clear HO460; clear HB; clear HO457; have HO_5 := n0_; have HO460 := n1_; have HB := n2_; have HO463 := n3_; clear n0_ n1_ n2_ n3_; clear ho hb hg hat))
        go_ret
        exact ⟨_, by rfl, by exact Kd.R_mono HO463.out (fun _ hk => trivial), by exact HB.out⟩
       ·rw [if_neg c20] at H
        exact absurd H (by simp)
      ·rw [if_neg c18] at H
       exact absurd H (by simp)
  ·rw [if_neg c7] at H
   exact absurd H (by simp)
 ·rw [if_neg c6] at H
  exact absurd H (by simp)

/-! ### peristyleref2_deltas: function 85 -/
def peristyleref2_deltas.l0 : Nat → List Int → List Int → Int → Option (List Int)
 | 0, _, _, _ => none
 | k + 1, x0, x3, x4 => if x4 < (x0.length : Int) then (if 0 ≤ x4 then (if 0 ≤ (wrap64 (x4 - 1)) then (if (wrap64 (x4 - 1)) < (x0.length : Int) then ((peristyleref2_number.f k (wrap64 ((rd x0 x4) - (rd x0 (wrap64 (x4 - 1)))))).bind fun t470 => (if x3.length + t470.length < 140737488355328 then (peristyleref2_deltas.l0 k x0 (x3 ++ t470) (wrap64 (x4 + 1))) else (none))) else (none)) else (none)) else (none)) else (some x3)
def peristyleref2_deltas.f (k : Nat) (l0 : List Int) : Option (List Int) := if 0 < (l0.length : Int) then ((peristyleref2_number.f k (rd l0 0)).bind fun t465 => (peristyleref2_deltas.l0 k l0 t465 1)) else (none)
theorem peristyleref2_deltas.mono_l : ∀ k, (∀ y0 y1 y2, LeO (peristyleref2_deltas.l0 k y0 y1 y2) (peristyleref2_deltas.l0 (k + 1) y0 y1 y2))
 | 0 => fun _ _ _ r h => by simp [peristyleref2_deltas.l0] at h
 | k + 1 => by
  have ih0 := peristyleref2_deltas.mono_l k
  ·intro y0 y1 y2
   unfold peristyleref2_deltas.l0
   repeat' first
   | (with_reducible exact ih0 _ _ _)
   | (with_reducible exact peristyleref2_number.mono _ _)
   | (with_reducible exact LeO.refl _)
   | (with_reducible refine LeO.ite ?_ ?_)
   | (with_reducible refine LeO.bind ?_ (fun _ => ?_))
theorem peristyleref2_deltas.mono : ∀ a0 k, LeO (peristyleref2_deltas.f k a0) (peristyleref2_deltas.f (k + 1) a0) := by
 intro a0 k
 have ih0 := peristyleref2_deltas.mono_l k
 unfold peristyleref2_deltas.f
 repeat' first
  | (with_reducible exact ih0 _ _ _)
  | (with_reducible exact peristyleref2_number.mono _ _)
  | (with_reducible exact LeO.refl _)
  | (with_reducible refine LeO.ite ?_ ?_)
  | (with_reducible refine LeO.bind ?_ (fun _ => ?_))
def peristyleref2_deltas.T5 : Bool × List (List Nat × List Nat) := (true, [([], []), ([], []), ([], []), ([1, 2], [1, 2]), ([3], [3]), ([], []), ([], []), ([6], [6]), ([5, 7], [5, 7]), ([8], [8]), ([4, 9], [4, 9]), ([10], [10]), ([0, 11, 11], [0, 11]), ([12, 12, 0, 1, 2, 3, 4, 5, 6, 7, 8, 9, 10, 11, 12], [0, 12])])
def peristyleref2_deltas.B5 : List Nat := [0, 0, 0, 6, 14, 0, 0, 64, 224, 480, 1022, 2046, 4095, 8191]
theorem peristyleref2_deltas.tab5 : rtab .any (opsOf Try.f85 5) = peristyleref2_deltas.T5 := by kernel_rfl
theorem peristyleref2_deltas.bits5 : waitsOk peristyleref2_deltas.T5.2 peristyleref2_deltas.B5 = true := by kernel_rfl
set_option maxHeartbeats 8000000 in
set_option maxRecDepth 100000 in
theorem peristyleref2_deltas.calls (k : Nat) (A0 : Option Addr) (c0 : Nat) (l0 : List Int) (r : List Int) (w : World) (hr0 : Kd.C (Kd.int .i64) w A0 l0.length l0) (hc0 : l0.length ≤ c0) (h : peristyleref2_deltas.f k l0 = some r) :
 Calls Try.prog 85 #[.slice A0 l0.length c0] w fun e w' => ∃ v0_ : Value, e = .returned (v0_) ∧ Kd.R (Kd.int .u8) 5 w' w.heap.size (fun _ => True) v0_ r ∧ Below w.heap.size w w' := by
 have HR0 := Aside0.mk hr0
 have HC0 := Aside0.mk hc0
 clear hr0 hc0
 have HB := Aside0.mk (Below.refl w.heap.size w)
 have H : (if 0 < (l0.length : Int) then ((peristyleref2_number.f k (rd l0 0)).bind fun t465 => (peristyleref2_deltas.l0 k l0 t465 1)) else (none)) = some r := h
 clear h
 by_cases c2 : 0 < (l0.length : Int)
 ·rw [if_pos c2] at H
  have c2b0 : decide (0 < (l0.length : Int)) = true := decide_eq_true c2
  have c2b1 : decide (0 < l0.length) = true := decide_eq_true (by omega)
  clear c2
  replace H := Option.bind_eq_some_iff.mp H
  obtain ⟨t465, A30, H⟩ := H
  replace H : (peristyleref2_deltas.l0 k l0 t465 1) = some r := H
  have A3 := Aside0.mk A30
  clear A30
  have H' := Aside0.mk H
  clear H
  have p464 : 0 ≤ (0 : Int) := (by omega)
  have q464 : 0 < (l0.length : Int) := of_decide_eq_true (by (with_reducible assumption))
  obtain ⟨ad464, e464, hx464_0⟩ := Kd.at_int HR0.out 0 p464 q464
  cases e464
  have qi464 : (0 < l0.length) = True := eq_true (by omega)
  (try rw [show ((0 : Int)).toNat = 0 from rfl] at hx464_0)
  (try rw [Addr.add_zero'] at hx464_0)
  replace p464 := eq_true p464
  replace q464 := eq_true q464
  go_enter Try.func85, Try.ntmps85
  go_wp2_with (first | ((with_reducible refine gate_callee (f := 81) rfl ?_); refine goesL_ (some 8) rfl rfl Try.func81 (by kernel_rfl) rfl #[.int .i64 (rd l0 0)] rfl (by (try simp only [List.map_toArray, List.map_cons, List.map_nil]); rfl) ?_; (with_reducible refine (peristyleref2_number.calls k (rd l0 0) t465 _ A3.out).mono ?_); rintro e w4 ⟨v466, rfl, ho0, hb⟩; refine ⟨_, rfl, ?_⟩; have n0_ := Aside0.mk (Kd.R_lower ho0 (below_size (by exact HB.out))); have n1_ := Aside0.mk (below_step (by exact HB.out) hb); clear HB; have HO467 := n0_; have HB := n1_; clear n0_ n1_; (try clear hb); (try clear ho0)))
  go_loopg [3, 4] k (fun kq v3 v4 w' => ∃ (x3_1 : List Int) (x4_1 : Int), v4 = .int .i64 x4_1 ∧ Aside0 (peristyleref2_deltas.l0 kq l0 x3_1 x4_1 = some r) ∧ Aside0 (kq ≤ k) ∧ Aside0 (Kd.R (Kd.int .u8) 5 w' w.heap.size (fun _ => True) v3 x3_1) ∧ Aside0 (Below w.heap.size w w'))
  case atStart => exact ⟨(t465), (1), (by rfl), H', ⟨Nat.le_refl _⟩, ⟨by exact HO467.out⟩, ⟨by exact HB.out⟩⟩
  case round =>
   clear H'
   try clear c2b0
   try clear c2b1
   try clear hx464_0
   try clear p464
   try clear q464
   obtain ⟨x3_1, x4_1, rfl, HA, HK1, HO_3, HB⟩ := hrel
   cases gk with
   | zero => exact absurd HA.out (by simp [peristyleref2_deltas.l0])
   | succ k1 =>
    have H := HA.out
    clear HA
    simp only [peristyleref2_deltas.l0] at H
    by_cases c5 : x4_1 < (l0.length : Int)
    ·rw [if_pos c5] at H
     have c5b0 : decide (x4_1 < (l0.length : Int)) = true := decide_eq_true c5
     clear c5
     by_cases c6 : 0 ≤ x4_1
     ·rw [if_pos c6] at H
      have c6b0 : decide (0 ≤ x4_1) = true := decide_eq_true c6
      clear c6
      obtain ⟨ji7, hji7⟩ : ∃ j_ : Int, (wrap64 (x4_1 - 1)) = j_ := ⟨_, rfl⟩
      replace H : (if 0 ≤ (ji7) then (if (ji7) < (l0.length : Int) then ((peristyleref2_number.f k1 (wrap64 ((rd l0 x4_1) - (rd l0 (ji7))))).bind fun t470 => (if x3_1.length + t470.length < 140737488355328 then (peristyleref2_deltas.l0 k1 l0 (x3_1 ++ t470) (wrap64 (x4_1 + 1))) else (none))) else (none)) else (none)) = some r := by (rw [hji7] at H; exact H)
      have hji7w : (IntKind.i64.wrap (x4_1 - 1)) = ji7 := (i64_w _).trans hji7
      by_cases c8 : 0 ≤ (ji7)
      ·rw [if_pos c8] at H
       have c8b0 : decide (0 ≤ (ji7)) = true := decide_eq_true c8
       clear c8
       by_cases c9 : (ji7) < (l0.length : Int)
       ·rw [if_pos c9] at H
        have c9b0 : decide ((ji7) < (l0.length : Int)) = true := decide_eq_true c9
        clear c9
        replace H := Option.bind_eq_some_iff.mp H
        obtain ⟨t470, A100, H⟩ := H
        replace H : (if x3_1.length + t470.length < 140737488355328 then (peristyleref2_deltas.l0 k1 l0 (x3_1 ++ t470) (wrap64 (x4_1 + 1))) else (none)) = some r := H
        have A10 := Aside0.mk A100
        clear A100
        by_cases c11 : x3_1.length + t470.length < 140737488355328
        ·rw [if_pos c11] at H
         have LMc11 := Aside0.mk c11
         clear c11
         obtain ⟨y473, hy473⟩ : ∃ y_ : List Int, y_ = (x3_1 ++ t470) := ⟨_, rfl⟩
         replace H : (peristyleref2_deltas.l0 k1 l0 y473 (wrap64 (x4_1 + 1))) = some r := by (rw [hy473]; with_reducible exact H)
         have Ny473 := Aside0.mk hy473
         clear hy473
         have H' := Aside0.mk H
         clear H
         try go_wp2
         have n0_ := Aside0.mk (Kd.R_drew HO_3.out)
         have n1_ := Aside0.mk (below_drew1 HB.out)
         clear HO_3
         clear HB
         have HO_3 := n0_
         have HB := n1_
         clear n0_ n1_
         have p468 : 0 ≤ (x4_1 : Int) := of_decide_eq_true (by (with_reducible assumption))
         have q468 : x4_1 < (l0.length : Int) := of_decide_eq_true (by (with_reducible assumption))
         obtain ⟨ad468, e468, hx468_0⟩ := Kd.at_int HR0.out x4_1 p468 q468
         have hw468_0 := hx468_0
         obtain rfl : ad464 = ad468 := (by injection e468)
         replace hx468_0 := (HB.out.cell (World.block_lt_of_cell? w _ hx468_0)).trans hx468_0
         replace p468 := eq_true p468
         replace q468 := eq_true q468
         have p469 : 0 ≤ ((ji7) : Int) := of_decide_eq_true (by (with_reducible assumption))
         have q469 : (ji7) < (l0.length : Int) := of_decide_eq_true (by (with_reducible assumption))
         obtain ⟨ad469, e469, hx469_0⟩ := Kd.at_int HR0.out (ji7) p469 q469
         have hw469_0 := hx469_0
         obtain rfl : ad464 = ad469 := (by injection e469)
         replace hx469_0 := (HB.out.cell (World.block_lt_of_cell? w _ hx469_0)).trans hx469_0
         replace p469 := eq_true p469
         replace q469 := eq_true q469
         refine start_ (n := 14) (S := fun w' => w'.cell? (ad464.add (x4_1).toNat) = some (.int .i64 (rd l0 x4_1)) ∧ w'.cell? (ad464.add ((ji7)).toNat) = some (.int .i64 (rd l0 (ji7)))) (ds := []) #[false, false, false, false, false, false, false, false, false, false, false, false, false, false] (by kernel_rfl) rfl rfl ⟨((HB.out.cell (World.block_lt_of_cell? w _ hw468_0)).trans hw468_0), ((HB.out.cell (World.block_lt_of_cell? w _ hw469_0)).trans hw469_0)⟩ (fun hHeld => ?_); refine with_tabW peristyleref2_deltas.tab5 peristyleref2_deltas.bits5 (fun HT_ HW_ => ?_)
         generalize wr.drew = w12 at HO_3 HB hx468_0 hx469_0 hHeld ⊢
         refine pure_ (i := 0) (N := some 15) (v := ?_) (a' := ?_) #[true, false, false, false, false, false, false, false, false, false, false, false, false, false] rfl rfl (any_of HT_.out (by kernel_rfl)) (fun _ _ _ h => h) (Or.inl ⟨by rfl, ?_⟩) ?_ ?_
         rotate_left
         ·intro w'
          go_simp
          with_reducible rfl
         rotate_left
         ·simp only [Act.put, List.setIfInBounds_toArray, List.set_cons_zero, List.set_cons_succ, i64_w, i32_w]
          rfl
         refine pure_ (i := 1) (N := some 16) (v := ?_) (a' := ?_) #[true, true, false, false, false, false, false, false, false, false, false, false, false, false] rfl rfl (any_of HT_.out (by kernel_rfl)) (fun _ _ _ h => h) (Or.inl ⟨by rfl, ?_⟩) ?_ ?_
         rotate_left
         ·intro w'
          go_simp
          with_reducible rfl
         rotate_left
         ·simp only [Act.put, List.setIfInBounds_toArray, List.set_cons_zero, List.set_cons_succ, i64_w, i32_w]
          rfl
         refine pure_ (i := 2) (N := some 17) (v := ?_) (a' := ?_) #[true, true, true, false, false, false, false, false, false, false, false, false, false, false] rfl rfl (any_of HT_.out (by kernel_rfl)) (fun _ _ _ h => h) (Or.inl ⟨by rfl, ?_⟩) ?_ ?_
         rotate_left
         ·intro w'
          go_simp
          with_reducible rfl
         rotate_left
         ·simp only [Act.put, List.setIfInBounds_toArray, List.set_cons_zero, List.set_cons_succ, i64_w, i32_w]
          rfl
         refine pure_ (i := 3) (N := some 18) (v := ?_) (a' := ?_) #[true, true, true, true, false, false, false, false, false, false, false, false, false, false] rfl rfl (any_of HT_.out (by kernel_rfl)) (fun _ _ _ h => h) (Or.inl ⟨by rfl, ?_⟩) ?_ ?_
         rotate_left
         ·intro w'
          go_simp
          with_reducible rfl
         rotate_left
         ·simp only [Act.put, List.setIfInBounds_toArray, List.set_cons_zero, List.set_cons_succ, i64_w, i32_w]
          rfl
         refine pure_ (i := 5) (N := some 20) (v := ?_) (a' := ?_) #[true, true, true, true, false, true, false, false, false, false, false, false, false, false] rfl rfl (any_of HT_.out (by kernel_rfl)) (fun _ _ _ h => h) (Or.inl ⟨by rfl, ?_⟩) ?_ ?_
         rotate_left
         ·intro w'
          go_simp
          with_reducible rfl
         rotate_left
         ·simp only [Act.put, List.setIfInBounds_toArray, List.set_cons_zero, List.set_cons_succ, i64_w, i32_w]
          rfl
         refine pure_ (i := 6) (N := some 21) (v := ?_) (a' := ?_) #[true, true, true, true, false, true, true, false, false, false, false, false, false, false] rfl rfl (any_of HT_.out (by kernel_rfl)) (fun _ _ _ h => h) (Or.inl ⟨by rfl, ?_⟩) ?_ ?_
         rotate_left
         ·intro w'
          go_simp
          with_reducible rfl
         rotate_left
         ·simp only [Act.put, List.setIfInBounds_toArray, List.set_cons_zero, List.set_cons_succ, i64_w, i32_w]
          rfl
         refine pure_ (i := 7) (N := some 22) (v := ?_) (a' := ?_) #[true, true, true, true, false, true, true, true, false, false, false, false, false, false] rfl rfl (any_of HT_.out (by kernel_rfl)) (fun _ _ _ h => h) (Or.inl ⟨by rfl, ?_⟩) ?_ ?_
         rotate_left
         ·intro w'
          go_simp
          with_reducible rfl
         rotate_left
         ·simp only [Act.put, List.setIfInBounds_toArray, List.set_cons_zero, List.set_cons_succ, i64_w, i32_w]
          rfl
         refine pure_ (i := 8) (N := some 23) (v := ?_) (a' := ?_) #[true, true, true, true, false, true, true, true, true, false, false, false, false, false] rfl rfl (any_of HT_.out (by kernel_rfl)) (fun _ _ _ h => h) (Or.inl ⟨by rfl, ?_⟩) ?_ ?_
         rotate_left
         ·intro w'
          go_simp
          with_reducible rfl
         rotate_left
         ·simp only [Act.put, List.setIfInBounds_toArray, List.set_cons_zero, List.set_cons_succ, i64_w, i32_w]
          rfl
         refine take_ (i := 4) (N := some 19) (v := ?_) (a' := ?_) #[true, true, true, true, true, true, true, true, true, false, false, false, false, false] rfl rfl (take_ofW HT_.out HW_.out (by kernel_rfl)) (fun _ _ _ h => h) (Or.inl ⟨by rfl, ?_⟩) hHeld ?_ ?_
         rotate_left
         ·rintro w' ⟨s0, s1⟩
          go_simp
          with_reducible rfl
         rotate_left
         ·simp only [Act.put, List.setIfInBounds_toArray, List.set_cons_zero, List.set_cons_succ, i64_w, i32_w]
          rfl
         refine take_ (i := 9) (N := some 24) (v := ?_) (a' := ?_) #[true, true, true, true, true, true, true, true, true, true, false, false, false, false] rfl rfl (take_ofW HT_.out HW_.out (by kernel_rfl)) (fun _ _ _ h => h) (Or.inl ⟨by rfl, ?_⟩) hHeld ?_ ?_
         rotate_left
         ·rintro w' ⟨s0, s1⟩
          go_simp
          with_reducible rfl
         rotate_left
         ·simp only [Act.put, List.setIfInBounds_toArray, List.set_cons_zero, List.set_cons_succ, i64_w, i32_w]
          rfl
         refine pure_ (i := 10) (N := some 25) (v := ?_) (a' := ?_) #[true, true, true, true, true, true, true, true, true, true, true, false, false, false] rfl rfl (any_of HT_.out (by kernel_rfl)) (fun _ _ _ h => h) (Or.inl ⟨by rfl, ?_⟩) ?_ ?_
         rotate_left
         ·intro w'
          go_simp
          with_reducible rfl
         rotate_left
         ·simp only [Act.put, List.setIfInBounds_toArray, List.set_cons_zero, List.set_cons_succ, i64_w, i32_w]
          rfl
         refine one_ (i := 11) (N := some 26) #[true, true, true, true, true, true, true, true, true, true, true, true, false, false] rfl rfl (one_of HT_.out (by kernel_rfl)) (by decide) (fun K hK => ?_)
         refine goes_ Try.func81 (by kernel_rfl) rfl #[.int .i64 (wrap64 ((rd l0 x4_1) - (rd l0 (ji7))))] (by rfl) rfl rfl (by (try simp only [List.map_toArray, List.map_cons, List.map_nil]); rfl) ?_
         with_reducible refine (peristyleref2_number.calls k1 (wrap64 ((rd l0 x4_1) - (rd l0 (ji7)))) t470 _ A10.out).mono ?_
         rintro e w13 ⟨v471, rfl, ho0, hb⟩
         refine ⟨_, rfl, ?_⟩
         have n0_ := Aside0.mk (Kd.R_elder' (by exact HO_3.out) (Kd.R_base ho0) hb)
         have n1_ := Aside0.mk (Kd.R_lower (Kd.R_new' ho0 (Kd.R_lt (by exact HO_3.out))) (below_size (by exact HB.out)))
         have n2_ := Aside0.mk (below_step (by exact HB.out) hb)
         clear HO_3
         clear HB
         have HO_3 := n0_
         have HO472 := n1_
         have HB := n2_
         clear n0_ n1_ n2_
         (try clear hb)
         (try clear hb2)
         (try clear hk)
         (try clear hi)
         (try clear ho0)
         obtain ⟨Ao15, co15, eo15⟩ := Kd.R_slice HO472.out
         (subst eo15)
         refine hK.out _ _ ⟨((HB.out.cell (World.block_lt_of_cell? w _ hw468_0)).trans hw468_0), ((HB.out.cell (World.block_lt_of_cell? w _ hw469_0)).trans hw469_0)⟩ (fun hHeld => ?_)
         clear hK K
         refine norm_ (a' := ?_) ?_ ?_
         rotate_left
         ·show Act.put _ (some 26) _ = _
          simp only [Act.put, List.setIfInBounds_toArray, List.set_cons_zero, List.set_cons_succ, i64_w, i32_w]
          rfl
         refine one_ (i := 12) (N := some 27) #[true, true, true, true, true, true, true, true, true, true, true, true, true, false] rfl rfl (one_of HT_.out (by kernel_rfl)) (by decide) (fun K hK => ?_)
         refine Kd.R_append_rows_step (Kd.int .u8) (w0 := w) w.heap.size (by rfl) (.tmp 15) (.tmp 26) 27 5 (.int .u8 0) 1 rfl Try.underlying27 info5 rfl (by decide) (by omega) u3 x3_1 t470 _ _ _ (fun k_ => some k_ ≠ (.slice Ao15 t470.length co15 : Value).ownBlock) (fun _ => False) rfl rfl ?aO ?aR (fun _ _ h => h) (fun _ h => h.elim) ?aF ?aB ?aS ?aL ?_
         (case aR => repeat (exact (Kd.R_reads' HO472.out).2.2))
         (case aB => exact (by exact HB.out))
         (case aF => exact (fun k_ hk => Kd.fresh' (Kd.R_lt (by exact HO472.out)) k_ hk))
         (case aO => exact (by exact Kd.R_mono HO_3.out (fun _ hk => hk.2)))
         (case aS => exact (below_size (by exact HB.out)))
         (case aL => have := LMc11.out; omega)
         intro v474 w14 ho hb hg hat
         rw [← Ny473.out] at ho
         have n0_ := Aside0.mk (Kd.R_after (ok := (fun _ => True)) (by exact HO472.out) hg hat)
         have n1_ := Aside0.mk (hb)
         have n2_ := Aside0.mk (ho)
         clear HO472
         clear HB
         clear HO_3
         have HO472 := n0_
         have HB := n1_
         have HO475 := n2_
         clear n0_ n1_ n2_
         clear ho hb hg hat
         refine hK.out _ _ ⟨((HB.out.cell (World.block_lt_of_cell? w _ hw468_0)).trans hw468_0), ((HB.out.cell (World.block_lt_of_cell? w _ hw469_0)).trans hw469_0)⟩ (fun hHeld => ?_)
         clear hK K
         refine norm_ (a' := ?_) ?_ ?_
         rotate_left
         ·show Act.put _ (some 27) _ = _
          simp only [Act.put, List.setIfInBounds_toArray, List.set_cons_zero, List.set_cons_succ, i64_w, i32_w]
          rfl
         refine pure_ (i := 13) (N := some 3) (v := ?_) (a' := ?_) #[true, true, true, true, true, true, true, true, true, true, true, true, true, true] rfl rfl (any_of HT_.out (by kernel_rfl)) (fun _ _ _ h => h) (Or.inl ⟨by rfl, ?_⟩) ?_ ?_
         rotate_left
         ·intro w'
          go_simp
          with_reducible rfl
         rotate_left
         ·simp only [Act.put, List.setIfInBounds_toArray, List.set_cons_zero, List.set_cons_succ, i64_w, i32_w]
          rfl
         refine done_ (done_of HT_.out (by kernel_rfl)) ?_
         try go_wp2
         go_roundg k1
         case measure => have := HK1.out; omega
         case rel => exact ⟨(y473), (wrap64 (x4_1 + 1)), (by rfl), H', ⟨by have := HK1.out; omega⟩, ⟨by exact Kd.R_mono HO475.out (fun _ hk => trivial)⟩, ⟨by exact HB.out⟩⟩
        ·rw [if_neg c11] at H
         exact absurd H (by simp)
       ·rw [if_neg c9] at H
        exact absurd H (by simp)
      ·rw [if_neg c8] at H
       exact absurd H (by simp)
     ·rw [if_neg c6] at H
      exact absurd H (by simp)
    ·rw [if_neg c5] at H
     have c5b0 : decide (x4_1 < (l0.length : Int)) = false := decide_eq_false c5
     clear c5
     obtain rfl := Option.some.inj H
     go_wp2
     go_ret
     exact ⟨_, by rfl, by exact HO_3.out, by exact HB.out⟩
 ·rw [if_neg c2] at H
  exact absurd H (by simp)

/-! ### peristyleref2_bytesOf: function 63 -/
def peristyleref2_bytesOf.l0 : Nat → List Int → List Int → Int → Int → Option (List Int)
 | 0, _, _, _, _ => none
 | k + 1, x5, x22, x23, x24 => if x24 < x23 then (if 0 ≤ x24 then (if x24 < (x22.length : Int) then ((peristyleref2_number.f k (rd x22 x24)).bind fun t486 => (if x5.length + t486.length < 140737488355328 then (peristyleref2_bytesOf.l0 k (x5 ++ t486) x22 x23 (wrap64 (x24 + 1))) else (none))) else (none)) else (none)) else (some x5)
def peristyleref2_bytesOf.f (k : Nat) (a0 : Int) (l1 : List Int) : Option (List Int) := (some (([(a0) % 256] : List Int) : List Int)).bind fun y476 => ((peristyleref2_count.f k (l1.length : Int)).bind fun t479 => (if y476.length + t479.length < 140737488355328 then ((some (y476 ++ t479 : List Int)).bind fun y482 => (if (l1.length : Int) = 0 then (some y482) else (if a0 = 1 then (peristyleref2_bytesOf.l0 k y482 l1 (l1.length : Int) 0) else (if a0 = 2 then ((peristyleref2_runs.f k l1).bind fun t492 => (if y482.length + t492.length < 140737488355328 then (some (y482 ++ t492)) else (none))) else (if a0 = 3 then ((peristyleref2_dict.f k l1).bind fun t498 => (if y482.length + t498.length < 140737488355328 then (some (y482 ++ t498)) else (none))) else (if a0 = 4 then ((peristyleref2_frame.f k l1).bind fun t504 => (if y482.length + t504.length < 140737488355328 then (some (y482 ++ t504)) else (none))) else ((peristyleref2_deltas.f k l1).bind fun t510 => (if y482.length + t510.length < 140737488355328 then (some (y482 ++ t510)) else (none))))))))) else (none)))
theorem peristyleref2_bytesOf.mono_l : ∀ k, (∀ y0 y1 y2 y3, LeO (peristyleref2_bytesOf.l0 k y0 y1 y2 y3) (peristyleref2_bytesOf.l0 (k + 1) y0 y1 y2 y3))
 | 0 => fun _ _ _ _ r h => by simp [peristyleref2_bytesOf.l0] at h
 | k + 1 => by
  have ih0 := peristyleref2_bytesOf.mono_l k
  ·intro y0 y1 y2 y3
   unfold peristyleref2_bytesOf.l0
   repeat' first
   | (with_reducible exact ih0 _ _ _ _)
   | (with_reducible exact peristyleref2_number.mono _ _)
   | (with_reducible exact LeO.refl _)
   | (with_reducible refine LeO.ite ?_ ?_)
   | (with_reducible refine LeO.bind ?_ (fun _ => ?_))
theorem peristyleref2_bytesOf.mono : ∀ a0 a1 k, LeO (peristyleref2_bytesOf.f k a0 a1) (peristyleref2_bytesOf.f (k + 1) a0 a1) := by
 intro a0 a1 k
 have ih0 := peristyleref2_bytesOf.mono_l k
 unfold peristyleref2_bytesOf.f
 repeat' first
  | (with_reducible exact ih0 _ _ _ _)
  | (with_reducible exact peristyleref2_count.mono _ _)
  | (with_reducible exact peristyleref2_deltas.mono _ _)
  | (with_reducible exact peristyleref2_dict.mono _ _)
  | (with_reducible exact peristyleref2_frame.mono _ _)
  | (with_reducible exact peristyleref2_runs.mono _ _)
  | (with_reducible exact LeO.refl _)
  | (with_reducible refine LeO.ite ?_ ?_)
  | (with_reducible refine LeO.bind ?_ (fun _ => ?_))
set_option maxHeartbeats 8000000 in
set_option maxRecDepth 100000 in
theorem peristyleref2_bytesOf.calls (k : Nat) (a0 : Int) (A1 : Option Addr) (c1 : Nat) (l1 : List Int) (r : List Int) (w : World) (hr1 : Kd.C (Kd.int .i64) w A1 l1.length l1) (hc1 : l1.length ≤ c1) (h : peristyleref2_bytesOf.f k a0 l1 = some r) :
 Calls Try.prog 63 #[.int .i64 a0, .slice A1 l1.length c1] w fun e w' => ∃ v0_ : Value, e = .returned (v0_) ∧ Kd.R (Kd.int .u8) 5 w' w.heap.size (fun _ => True) v0_ r ∧ Below w.heap.size w w' := by
 have HR1 := Aside0.mk hr1
 have HC1 := Aside0.mk hc1
 clear hr1 hc1
 have HB := Aside0.mk (Below.refl w.heap.size w)
 have H : ((some (([(a0) % 256] : List Int) : List Int)).bind fun y476 => ((peristyleref2_count.f k (l1.length : Int)).bind fun t479 => (if y476.length + t479.length < 140737488355328 then ((some (y476 ++ t479 : List Int)).bind fun y482 => (if (l1.length : Int) = 0 then (some y482) else (if a0 = 1 then (peristyleref2_bytesOf.l0 k y482 l1 (l1.length : Int) 0) else (if a0 = 2 then ((peristyleref2_runs.f k l1).bind fun t492 => (if y482.length + t492.length < 140737488355328 then (some (y482 ++ t492)) else (none))) else (if a0 = 3 then ((peristyleref2_dict.f k l1).bind fun t498 => (if y482.length + t498.length < 140737488355328 then (some (y482 ++ t498)) else (none))) else (if a0 = 4 then ((peristyleref2_frame.f k l1).bind fun t504 => (if y482.length + t504.length < 140737488355328 then (some (y482 ++ t504)) else (none))) else ((peristyleref2_deltas.f k l1).bind fun t510 => (if y482.length + t510.length < 140737488355328 then (some (y482 ++ t510)) else (none))))))))) else (none)))) = some r := h
 clear h
 obtain ⟨y476, hy476⟩ : ∃ y_ : List Int, y_ = (([(a0) % 256] : List Int)) := ⟨_, rfl⟩
 replace H : ((peristyleref2_count.f k (l1.length : Int)).bind fun t479 => (if y476.length + t479.length < 140737488355328 then ((some (y476 ++ t479 : List Int)).bind fun y482 => (if (l1.length : Int) = 0 then (some y482) else (if a0 = 1 then (peristyleref2_bytesOf.l0 k y482 l1 (l1.length : Int) 0) else (if a0 = 2 then ((peristyleref2_runs.f k l1).bind fun t492 => (if y482.length + t492.length < 140737488355328 then (some (y482 ++ t492)) else (none))) else (if a0 = 3 then ((peristyleref2_dict.f k l1).bind fun t498 => (if y482.length + t498.length < 140737488355328 then (some (y482 ++ t498)) else (none))) else (if a0 = 4 then ((peristyleref2_frame.f k l1).bind fun t504 => (if y482.length + t504.length < 140737488355328 then (some (y482 ++ t504)) else (none))) else ((peristyleref2_deltas.f k l1).bind fun t510 => (if y482.length + t510.length < 140737488355328 then (some (y482 ++ t510)) else (none))))))))) else (none))) = some r := by (have H2_ := (Option.bind_some _ _).symm.trans H; rw [hy476]; with_reducible exact H2_)
 have Ny476 := Aside0.mk hy476
 clear hy476
 replace H := Option.bind_eq_some_iff.mp H
 obtain ⟨t479, A30, H⟩ := H
 replace H : (if y476.length + t479.length < 140737488355328 then ((some (y476 ++ t479 : List Int)).bind fun y482 => (if (l1.length : Int) = 0 then (some y482) else (if a0 = 1 then (peristyleref2_bytesOf.l0 k y482 l1 (l1.length : Int) 0) else (if a0 = 2 then ((peristyleref2_runs.f k l1).bind fun t492 => (if y482.length + t492.length < 140737488355328 then (some (y482 ++ t492)) else (none))) else (if a0 = 3 then ((peristyleref2_dict.f k l1).bind fun t498 => (if y482.length + t498.length < 140737488355328 then (some (y482 ++ t498)) else (none))) else (if a0 = 4 then ((peristyleref2_frame.f k l1).bind fun t504 => (if y482.length + t504.length < 140737488355328 then (some (y482 ++ t504)) else (none))) else ((peristyleref2_deltas.f k l1).bind fun t510 => (if y482.length + t510.length < 140737488355328 then (some (y482 ++ t510)) else (none))))))))) else (none)) = some r := H
 have A3 := Aside0.mk A30
 clear A30
 by_cases c4 : y476.length + t479.length < 140737488355328
 ·rw [if_pos c4] at H
  have LMc4 := Aside0.mk c4
  clear c4
  obtain ⟨y482, hy482⟩ : ∃ y_ : List Int, y_ = (y476 ++ t479) := ⟨_, rfl⟩
  replace H : (if (l1.length : Int) = 0 then (some y482) else (if a0 = 1 then (peristyleref2_bytesOf.l0 k y482 l1 (l1.length : Int) 0) else (if a0 = 2 then ((peristyleref2_runs.f k l1).bind fun t492 => (if y482.length + t492.length < 140737488355328 then (some (y482 ++ t492)) else (none))) else (if a0 = 3 then ((peristyleref2_dict.f k l1).bind fun t498 => (if y482.length + t498.length < 140737488355328 then (some (y482 ++ t498)) else (none))) else (if a0 = 4 then ((peristyleref2_frame.f k l1).bind fun t504 => (if y482.length + t504.length < 140737488355328 then (some (y482 ++ t504)) else (none))) else ((peristyleref2_deltas.f k l1).bind fun t510 => (if y482.length + t510.length < 140737488355328 then (some (y482 ++ t510)) else (none)))))))) = some r := by (have H2_ := (Option.bind_some _ _).symm.trans H; rw [hy482]; with_reducible exact H2_)
  have Ny482 := Aside0.mk hy482
  clear hy482
  by_cases c5 : (l1.length : Int) = 0
  ·rw [if_pos c5] at H
   have c5b0 : ((l1.length : Int) == 0) = true := beq_iff_eq.mpr c5
   have c5b1 : ((l1.length : Int) != 0) = false := bne_eq_false_iff_eq.mpr c5
   clear c5
   obtain rfl := Option.some.inj H
   go_enter Try.func63, Try.ntmps63
   go_wp2_with (first | ((with_reducible refine gate_dst (N := 10) rfl ?_); refine Kd.R_lit (Kd.int .u8) _ 5 ?hg (N := 10) ?hd (xs := ([(a0) % 256] : List Int)) (inner := [.int .u8 ((a0) % 256)]) (ok := fun _ => True) (okp := fun _ => True) ?hr ?hp (fun _ hk => hk) trivial (Below.refl _ _) (Nat.le_refl _) (by simp) ?_; (case hd => rfl); (case hg => rfl); (case hr => (go_simp; done)); (case hp => exact (Reps.one (show Kd.M (Kd.int .u8) _ _ _ ((a0) % 256) [.int .u8 ((a0) % 256)] from rfl) (Reps.none _ _))); intro v477 w6 ho7 hb hg_ hnew_; clear hg_ hnew_; (rw [← Ny476.out] at ho7); have n0_ := Aside0.mk (Kd.R_lower ho7 (below_size (by exact HB.out))); have n1_ := Aside0.mk (below_step (by exact HB.out) hb); clear HB; have HO478 := n0_; have HB := n1_; clear n0_ n1_; clear hb ho7) | ((with_reducible refine gate_callee (f := 55) rfl ?_); refine goesL_ (some 13) rfl rfl Try.func55 (by kernel_rfl) rfl #[.int .i64 (l1.length : Int)] rfl (by (try simp only [List.map_toArray, List.map_cons, List.map_nil]); rfl) ?_; (with_reducible refine (peristyleref2_count.calls k (l1.length : Int) t479 _ A3.out).mono ?_); rintro e w8 ⟨v480, rfl, ho0, hb⟩; refine ⟨_, rfl, ?_⟩; have n0_ := Aside0.mk (Kd.R_elder' (by exact HO478.out) (Kd.R_base ho0) hb); have n1_ := Aside0.mk (Kd.R_lower (Kd.R_new' ho0 (Kd.R_lt (by exact HO478.out))) (below_size (by exact HB.out))); have n2_ := Aside0.mk (below_step (by exact HB.out) hb); clear HO478; clear HB; have HO478 := n0_; have HO481 := n1_; have HB := n2_; clear n0_ n1_ n2_; (try clear hb); (try clear ho0); obtain ⟨Ao10, co10, eo10⟩ := Kd.R_slice HO481.out; subst eo10) | ((with_reducible refine gate_builtin (b := .append) (xs := #[.tmp 10, .tmp 13]) rfl ?_); at_builtin; refine Kd.R_append_rows (Kd.int .u8) (w0 := w) w.heap.size rfl (.tmp 10) (.tmp 13) 27 5 (.int .u8 0) 1 rfl Try.underlying27 info5 rfl (by decide) (by omega) v477 y476 t479 _ _ _ (fun k_ => some k_ ≠ (.slice Ao10 t479.length co10 : Value).ownBlock) (fun _ => False) rfl rfl ?aO ?aR (fun _ _ h => h) (fun _ h => h.elim) ?aF ?aB ?aS ?aL ?_; (case aR => repeat (exact (Kd.R_reads' HO481.out).2.2)); (case aB => exact (by exact HB.out)); (case aF => exact (fun k_ hk => Kd.fresh' (Kd.R_lt (by exact HO481.out)) k_ hk)); (case aO => exact (by exact Kd.R_mono HO478.out (fun _ hk => hk.2))); (case aS => exact (below_size (by exact HB.out))); (case aL => have := LMc4.out; omega); intro v483 w9 ho hb hg hat; rw [← Ny482.out] at ho; have n0_ := Aside0.mk (Kd.R_after (ok := (fun _ => True)) (by exact HO481.out) hg hat); have n1_ := Aside0.mk (hb); have n2_ := Aside0.mk (ho); clear HO481; clear HB; clear HO478; have HO481 := n0_; have HB := n1_; have HO484 := n2_; clear n0_ n1_ n2_; clear ho hb hg hat))
   go_ret
   exact ⟨_, by rfl, by exact Kd.R_mono HO484.out (fun _ hk => trivial), by exact HB.out⟩
  ·rw [if_neg c5] at H
   have c5b0 : ((l1.length : Int) == 0) = false := beq_eq_false_iff_ne.mpr c5
   have c5b1 : ((l1.length : Int) != 0) = true := bne_iff_ne.mpr c5
   have c5b2 : ¬ (l1 = []) := fun h_ => c5 (by rw [h_]; rfl)
   by_cases c11 : a0 = 1
   ·rw [if_pos c11] at H
    have c11b0 : (a0 == 1) = true := beq_iff_eq.mpr c11
    have c11b1 : (a0 != 1) = false := bne_eq_false_iff_eq.mpr c11
    clear c11
    have H' := Aside0.mk H
    clear H
    go_enter Try.func63, Try.ntmps63
    go_wp2_with (first | ((with_reducible refine gate_dst (N := 10) rfl ?_); refine Kd.R_lit (Kd.int .u8) _ 5 ?hg (N := 10) ?hd (xs := ([(a0) % 256] : List Int)) (inner := [.int .u8 ((a0) % 256)]) (ok := fun _ => True) (okp := fun _ => True) ?hr ?hp (fun _ hk => hk) trivial (Below.refl _ _) (Nat.le_refl _) (by simp) ?_; (case hd => rfl); (case hg => rfl); (case hr => (go_simp; done)); (case hp => exact (Reps.one (show Kd.M (Kd.int .u8) _ _ _ ((a0) % 256) [.int .u8 ((a0) % 256)] from rfl) (Reps.none _ _))); intro v477 w12 ho13 hb hg_ hnew_; clear hg_ hnew_; (rw [← Ny476.out] at ho13); have n0_ := Aside0.mk (Kd.R_lower ho13 (below_size (by exact HB.out))); have n1_ := Aside0.mk (below_step (by exact HB.out) hb); clear HB; have HO478 := n0_; have HB := n1_; clear n0_ n1_; clear hb ho13) | ((with_reducible refine gate_callee (f := 55) rfl ?_); refine goesL_ (some 13) rfl rfl Try.func55 (by kernel_rfl) rfl #[.int .i64 (l1.length : Int)] rfl (by (try simp only [List.map_toArray, List.map_cons, List.map_nil]); rfl) ?_; (with_reducible refine (peristyleref2_count.calls k (l1.length : Int) t479 _ A3.out).mono ?_); rintro e w14 ⟨v480, rfl, ho0, hb⟩; refine ⟨_, rfl, ?_⟩; have n0_ := Aside0.mk (Kd.R_elder' (by exact HO478.out) (Kd.R_base ho0) hb); have n1_ := Aside0.mk (Kd.R_lower (Kd.R_new' ho0 (Kd.R_lt (by exact HO478.out))) (below_size (by exact HB.out))); have n2_ := Aside0.mk (below_step (by exact HB.out) hb); clear HO478; clear HB; have HO478 := n0_; have HO481 := n1_; have HB := n2_; clear n0_ n1_ n2_; (try clear hb); (try clear ho0); obtain ⟨Ao16, co16, eo16⟩ := Kd.R_slice HO481.out; subst eo16) | ((with_reducible refine gate_builtin (b := .append) (xs := #[.tmp 10, .tmp 13]) rfl ?_); at_builtin; refine Kd.R_append_rows (Kd.int .u8) (w0 := w) w.heap.size rfl (.tmp 10) (.tmp 13) 27 5 (.int .u8 0) 1 rfl Try.underlying27 info5 rfl (by decide) (by omega) v477 y476 t479 _ _ _ (fun k_ => some k_ ≠ (.slice Ao16 t479.length co16 : Value).ownBlock) (fun _ => False) rfl rfl ?aO ?aR (fun _ _ h => h) (fun _ h => h.elim) ?aF ?aB ?aS ?aL ?_; (case aR => repeat (exact (Kd.R_reads' HO481.out).2.2)); (case aB => exact (by exact HB.out)); (case aF => exact (fun k_ hk => Kd.fresh' (Kd.R_lt (by exact HO481.out)) k_ hk)); (case aO => exact (by exact Kd.R_mono HO478.out (fun _ hk => hk.2))); (case aS => exact (below_size (by exact HB.out))); (case aL => have := LMc4.out; omega); intro v483 w15 ho hb hg hat; rw [← Ny482.out] at ho; have n0_ := Aside0.mk (Kd.R_after (ok := (fun _ => True)) (by exact HO481.out) hg hat); have n1_ := Aside0.mk (hb); have n2_ := Aside0.mk (ho); clear HO481; clear HB; clear HO478; have HO481 := n0_; have HB := n1_; have HO484 := n2_; clear n0_ n1_ n2_; clear ho hb hg hat))
    go_loopg [5, 24] k (fun kq v5 v24 w' => ∃ (x5_1 : List Int) (x24_1 : Int), v24 = .int .i64 x24_1 ∧ Aside0 (peristyleref2_bytesOf.l0 kq x5_1 l1 (l1.length : Int) x24_1 = some r) ∧ Aside0 (kq ≤ k) ∧ Aside0 (Kd.R (Kd.int .u8) 5 w' w.heap.size (fun _ => True) v5 x5_1) ∧ Aside0 (Below w.heap.size w w'))
    case atStart => exact ⟨(y482), (0), (by rfl), H', ⟨Nat.le_refl _⟩, ⟨by exact Kd.R_mono HO484.out (fun _ hk => trivial)⟩, ⟨by exact HB.out⟩⟩
    case round =>
     clear H'
     try clear c5
     try clear c5b0
     try clear c5b1
     try clear c5b2
     try clear c11b0
     try clear c11b1
     obtain ⟨x5_1, x24_1, rfl, HA, HK1, HO_5, HB⟩ := hrel
     cases gk with
     | zero => exact absurd HA.out (by simp [peristyleref2_bytesOf.l0])
     | succ k1 =>
      have H := HA.out
      clear HA
      simp only [peristyleref2_bytesOf.l0] at H
      by_cases c17 : x24_1 < (l1.length : Int)
      ·rw [if_pos c17] at H
       have c17b0 : decide (x24_1 < (l1.length : Int)) = true := decide_eq_true c17
       clear c17
       by_cases c18 : 0 ≤ x24_1
       ·rw [if_pos c18] at H
        have c18b0 : decide (0 ≤ x24_1) = true := decide_eq_true c18
        clear c18
        by_cases c19 : x24_1 < (l1.length : Int)
        ·rw [if_pos c19] at H
         have c19b0 : decide (x24_1 < (l1.length : Int)) = true := decide_eq_true c19
         clear c19
         replace H := Option.bind_eq_some_iff.mp H
         obtain ⟨t486, A200, H⟩ := H
         replace H : (if x5_1.length + t486.length < 140737488355328 then (peristyleref2_bytesOf.l0 k1 (x5_1 ++ t486) l1 (l1.length : Int) (wrap64 (x24_1 + 1))) else (none)) = some r := H
         have A20 := Aside0.mk A200
         clear A200
         by_cases c21 : x5_1.length + t486.length < 140737488355328
         ·rw [if_pos c21] at H
          have LMc21 := Aside0.mk c21
          clear c21
          obtain ⟨y489, hy489⟩ : ∃ y_ : List Int, y_ = (x5_1 ++ t486) := ⟨_, rfl⟩
          replace H : (peristyleref2_bytesOf.l0 k1 y489 l1 (l1.length : Int) (wrap64 (x24_1 + 1))) = some r := by (rw [hy489]; with_reducible exact H)
          have Ny489 := Aside0.mk hy489
          clear hy489
          have H' := Aside0.mk H
          clear H
          have p485 : 0 ≤ (x24_1 : Int) := of_decide_eq_true (by (with_reducible assumption))
          have q485 : x24_1 < (l1.length : Int) := of_decide_eq_true (by (with_reducible assumption))
          obtain ⟨ad485, e485, hx485_0⟩ := Kd.at_int HR1.out x24_1 p485 q485
          cases e485
          replace hx485_0 := (HB.out.cell (World.block_lt_of_cell? w _ hx485_0)).trans hx485_0
          replace p485 := eq_true p485
          replace q485 := eq_true q485
          go_wp2_with (first | ((with_reducible refine gate_callee (f := 81) rfl ?_); refine goesL_ (some 30) rfl rfl Try.func81 (by kernel_rfl) rfl #[.int .i64 (rd l1 x24_1)] rfl (by (try simp only [List.map_toArray, List.map_cons, List.map_nil]); rfl) ?_; (with_reducible refine (peristyleref2_number.calls k1 (rd l1 x24_1) t486 _ A20.out).mono ?_); rintro e w22 ⟨v487, rfl, ho0, hb⟩; refine ⟨_, rfl, ?_⟩; have n0_ := Aside0.mk (Kd.R_elder' (by exact HO_5.out) (Kd.R_base ho0) hb); have n1_ := Aside0.mk (Kd.R_lower (Kd.R_new' ho0 (Kd.R_lt (by exact HO_5.out))) (below_size (by exact HB.out))); have n2_ := Aside0.mk (below_step (by exact HB.out) hb); clear HO_5; clear HB; have HO_5 := n0_; have HO488 := n1_; have HB := n2_; clear n0_ n1_ n2_; (try clear hb); (try clear ho0); obtain ⟨Ao24, co24, eo24⟩ := Kd.R_slice HO488.out; subst eo24) | ((with_reducible refine gate_builtin (b := .append) (xs := #[.tmp 28, .tmp 30]) rfl ?_); at_builtin; refine Kd.R_append_rows (Kd.int .u8) (w0 := w) w.heap.size rfl (.tmp 28) (.tmp 30) 27 5 (.int .u8 0) 1 rfl Try.underlying27 info5 rfl (by decide) (by omega) u5 x5_1 t486 _ _ _ (fun k_ => some k_ ≠ (.slice Ao24 t486.length co24 : Value).ownBlock) (fun _ => False) rfl rfl ?aO ?aR (fun _ _ h => h) (fun _ h => h.elim) ?aF ?aB ?aS ?aL ?_; (case aR => repeat (exact (Kd.R_reads' HO488.out).2.2)); (case aB => exact (by exact HB.out)); (case aF => exact (fun k_ hk => Kd.fresh' (Kd.R_lt (by exact HO488.out)) k_ hk)); (case aO => exact (by exact Kd.R_mono HO_5.out (fun _ hk => hk.2))); (case aS => exact (below_size (by exact HB.out))); (case aL => have := LMc21.out; omega); intro v490 w23 ho hb hg hat; rw [← Ny489.out] at ho; have n0_ := Aside0.mk (Kd.R_after (ok := (fun _ => True)) (by exact HO488.out) hg hat); have n1_ := Aside0.mk (hb); have n2_ := Aside0.mk (ho); clear HO488; clear HB; clear HO_5; have HO488 := n0_; have HB := n1_; have HO491 := n2_; clear n0_ n1_ n2_; clear ho hb hg hat))
          go_roundg k1
          case measure => have := HK1.out; omega
          case rel => exact ⟨(y489), (wrap64 (x24_1 + 1)), (by rfl), H', ⟨by have := HK1.out; omega⟩, ⟨by exact Kd.R_mono HO491.out (fun _ hk => trivial)⟩, ⟨by exact HB.out⟩⟩
         ·rw [if_neg c21] at H
          exact absurd H (by simp)
        ·rw [if_neg c19] at H
         exact absurd H (by simp)
       ·rw [if_neg c18] at H
        exact absurd H (by simp)
      ·rw [if_neg c17] at H
       have c17b0 : decide (x24_1 < (l1.length : Int)) = false := decide_eq_false c17
       clear c17
       obtain rfl := Option.some.inj H
       go_wp2
       go_ret
       exact ⟨_, by rfl, by exact HO_5.out, by exact HB.out⟩
   ·rw [if_neg c11] at H
    have c11b0 : (a0 == 1) = false := beq_eq_false_iff_ne.mpr c11
    have c11b1 : (a0 != 1) = true := bne_iff_ne.mpr c11
    by_cases c25 : a0 = 2
    ·rw [if_pos c25] at H
     have c25b0 : (a0 == 2) = true := beq_iff_eq.mpr c25
     have c25b1 : (a0 != 2) = false := bne_eq_false_iff_eq.mpr c25
     clear c25
     replace H := Option.bind_eq_some_iff.mp H
     obtain ⟨t492, A260, H⟩ := H
     replace H : (if y482.length + t492.length < 140737488355328 then (some (y482 ++ t492)) else (none)) = some r := H
     have A26 := Aside0.mk A260
     clear A260
     by_cases c27 : y482.length + t492.length < 140737488355328
     ·rw [if_pos c27] at H
      have LMc27 := Aside0.mk c27
      clear c27
      obtain ⟨y495, hy495⟩ : ∃ y_ : List Int, y_ = (y482 ++ t492) := ⟨_, rfl⟩
      replace H : (some y495) = some r := by (rw [hy495]; with_reducible exact H)
      have Ny495 := Aside0.mk hy495
      clear hy495
      obtain rfl := Option.some.inj H
      go_enter Try.func63, Try.ntmps63
      go_wp2_with (first | ((with_reducible refine gate_dst (N := 10) rfl ?_); refine Kd.R_lit (Kd.int .u8) _ 5 ?hg (N := 10) ?hd (xs := ([(a0) % 256] : List Int)) (inner := [.int .u8 ((a0) % 256)]) (ok := fun _ => True) (okp := fun _ => True) ?hr ?hp (fun _ hk => hk) trivial (Below.refl _ _) (Nat.le_refl _) (by simp) ?_; (case hd => rfl); (case hg => rfl); (case hr => (go_simp; done)); (case hp => exact (Reps.one (show Kd.M (Kd.int .u8) _ _ _ ((a0) % 256) [.int .u8 ((a0) % 256)] from rfl) (Reps.none _ _))); intro v477 w28 ho29 hb hg_ hnew_; clear hg_ hnew_; (rw [← Ny476.out] at ho29); have n0_ := Aside0.mk (Kd.R_lower ho29 (below_size (by exact HB.out))); have n1_ := Aside0.mk (below_step (by exact HB.out) hb); clear HB; have HO478 := n0_; have HB := n1_; clear n0_ n1_; clear hb ho29) | ((with_reducible refine gate_callee (f := 55) rfl ?_); refine goesL_ (some 13) rfl rfl Try.func55 (by kernel_rfl) rfl #[.int .i64 (l1.length : Int)] rfl (by (try simp only [List.map_toArray, List.map_cons, List.map_nil]); rfl) ?_; (with_reducible refine (peristyleref2_count.calls k (l1.length : Int) t479 _ A3.out).mono ?_); rintro e w30 ⟨v480, rfl, ho0, hb⟩; refine ⟨_, rfl, ?_⟩; have n0_ := Aside0.mk (Kd.R_elder' (by exact HO478.out) (Kd.R_base ho0) hb); have n1_ := Aside0.mk (Kd.R_lower (Kd.R_new' ho0 (Kd.R_lt (by exact HO478.out))) (below_size (by exact HB.out))); have n2_ := Aside0.mk (below_step (by exact HB.out) hb); clear HO478; clear HB; have HO478 := n0_; have HO481 := n1_; have HB := n2_; clear n0_ n1_ n2_; (try clear hb); (try clear ho0); obtain ⟨Ao32, co32, eo32⟩ := Kd.R_slice HO481.out; subst eo32) | ((with_reducible refine gate_builtin (b := .append) (xs := #[.tmp 10, .tmp 13]) rfl ?_); at_builtin; refine Kd.R_append_rows (Kd.int .u8) (w0 := w) w.heap.size rfl (.tmp 10) (.tmp 13) 27 5 (.int .u8 0) 1 rfl Try.underlying27 info5 rfl (by decide) (by omega) v477 y476 t479 _ _ _ (fun k_ => some k_ ≠ (.slice Ao32 t479.length co32 : Value).ownBlock) (fun _ => False) rfl rfl ?aO ?aR (fun _ _ h => h) (fun _ h => h.elim) ?aF ?aB ?aS ?aL ?_; (case aR => repeat (exact (Kd.R_reads' HO481.out).2.2)); (case aB => exact (by exact HB.out)); (case aF => exact (fun k_ hk => Kd.fresh' (Kd.R_lt (by exact HO481.out)) k_ hk)); (case aO => exact (by exact Kd.R_mono HO478.out (fun _ hk => hk.2))); (case aS => exact (below_size (by exact HB.out))); (case aL => have := LMc4.out; omega); intro v483 w31 ho hb hg hat; rw [← Ny482.out] at ho; have n0_ := Aside0.mk (Kd.R_after (ok := (fun _ => True)) (by exact HO481.out) hg hat); have n1_ := Aside0.mk (hb); have n2_ := Aside0.mk (ho); clear HO481; clear HB; clear HO478; have HO481 := n0_; have HB := n1_; have HO484 := n2_; clear n0_ n1_ n2_; clear ho hb hg hat) | ((with_reducible refine gate_callee (f := 82) rfl ?_); refine goesL_ (some 38) rfl rfl Try.func82 (by kernel_rfl) rfl #[.slice A1 l1.length c1] rfl (by (try simp only [List.map_toArray, List.map_cons, List.map_nil]); rfl) ?_; (with_reducible refine (peristyleref2_runs.calls k _ _ l1 t492 _ ?side1 ?side2 A26.out).mono ?_); (case side1 => repeat (exact (Kd.C_below HR1.out HB.out))); (case side2 => exact HC1.out); rintro e w33 ⟨v493, rfl, ho0, hb⟩; refine ⟨_, rfl, ?_⟩; have n0_ := Aside0.mk (Kd.R_elder' (by exact HO481.out) (Kd.R_base ho0) hb); have n1_ := Aside0.mk (Kd.R_elder' (by exact HO484.out) (Kd.R_base ho0) hb); have n2_ := Aside0.mk (Kd.R_lower (Kd.R_new' (Kd.R_new' ho0 (Kd.R_lt (by exact HO481.out))) (Kd.R_lt (by exact HO484.out))) (below_size (by exact HB.out))); have n3_ := Aside0.mk (below_step (by exact HB.out) hb); clear HO481; clear HO484; clear HB; have HO481 := n0_; have HO484 := n1_; have HO494 := n2_; have HB := n3_; clear n0_ n1_ n2_ n3_; (try clear hb); (try clear ho0); obtain ⟨Ao35, co35, eo35⟩ := Kd.R_slice HO494.out; subst eo35) | ((with_reducible refine gate_builtin (b := .append) (xs := #[.tmp 36, .tmp 38]) rfl ?_); at_builtin; refine Kd.R_append_rows (Kd.int .u8) (w0 := w) w.heap.size rfl (.tmp 36) (.tmp 38) 27 5 (.int .u8 0) 1 rfl Try.underlying27 info5 rfl (by decide) (by omega) v483 y482 t492 _ _ _ (fun k_ => some k_ ≠ (.slice Ao32 t479.length co32 : Value).ownBlock ∧ some k_ ≠ (.slice Ao35 t492.length co35 : Value).ownBlock) (fun _ => False) rfl rfl ?aO ?aR (fun _ _ h => h) (fun _ h => h.elim) ?aF ?aB ?aS ?aL ?_; (case aR => repeat (exact (Kd.R_reads' HO494.out).2.2)); (case aB => exact (by exact HB.out)); (case aF => exact (fun k_ hk => ⟨Kd.fresh' (Kd.R_lt (by exact HO481.out)) k_ hk, Kd.fresh' (Kd.R_lt (by exact HO494.out)) k_ hk⟩)); (case aO => exact (by exact HO484.out)); (case aS => exact (below_size (by exact HB.out))); (case aL => have := LMc27.out; omega); intro v496 w34 ho hb hg hat; rw [← Ny495.out] at ho; have n0_ := Aside0.mk (Kd.R_after (ok := (fun k_ => some k_ ≠ (.slice Ao35 t492.length co35 : Value).ownBlock)) (by exact Kd.R_mono HO481.out (fun _ hk => ⟨hk.2, hk.1.2⟩)) hg hat); have n1_ := Aside0.mk (Kd.R_after (ok := (fun k_ => some k_ ≠ (.slice Ao32 t479.length co32 : Value).ownBlock)) (by exact Kd.R_mono HO494.out (fun _ hk => ⟨hk.1.2, hk.2⟩)) hg hat); have n2_ := Aside0.mk (hb); have n3_ := Aside0.mk (ho); clear HO481; clear HO494; clear HB; clear HO484; have HO481 := n0_; have HO494 := n1_; have HB := n2_; have HO497 := n3_; clear n0_ n1_ n2_ n3_; clear ho hb hg hat))
      go_ret
      exact ⟨_, by rfl, by exact Kd.R_mono HO497.out (fun _ hk => trivial), by exact HB.out⟩
     ·rw [if_neg c27] at H
      exact absurd H (by simp)
    ·rw [if_neg c25] at H
     have c25b0 : (a0 == 2) = false := beq_eq_false_iff_ne.mpr c25
     have c25b1 : (a0 != 2) = true := bne_iff_ne.mpr c25
     by_cases c36 : a0 = 3
     ·rw [if_pos c36] at H
      have c36b0 : (a0 == 3) = true := beq_iff_eq.mpr c36
      have c36b1 : (a0 != 3) = false := bne_eq_false_iff_eq.mpr c36
      clear c36
      replace H := Option.bind_eq_some_iff.mp H
      obtain ⟨t498, A370, H⟩ := H
      replace H : (if y482.length + t498.length < 140737488355328 then (some (y482 ++ t498)) else (none)) = some r := H
      have A37 := Aside0.mk A370
      clear A370
      by_cases c38 : y482.length + t498.length < 140737488355328
      ·rw [if_pos c38] at H
       have LMc38 := Aside0.mk c38
       clear c38
       obtain ⟨y501, hy501⟩ : ∃ y_ : List Int, y_ = (y482 ++ t498) := ⟨_, rfl⟩
       replace H : (some y501) = some r := by (rw [hy501]; with_reducible exact H)
       have Ny501 := Aside0.mk hy501
       clear hy501
       obtain rfl := Option.some.inj H
       go_enter Try.func63, Try.ntmps63
       go_wp2_with (first | ((with_reducible refine gate_dst (N := 10) rfl ?_); refine Kd.R_lit (Kd.int .u8) _ 5 ?hg (N := 10) ?hd (xs := ([(a0) % 256] : List Int)) (inner := [.int .u8 ((a0) % 256)]) (ok := fun _ => True) (okp := fun _ => True) ?hr ?hp (fun _ hk => hk) trivial (Below.refl _ _) (Nat.le_refl _) (by simp) ?_; (case hd => rfl); (case hg => rfl); (case hr => (go_simp; done)); (case hp => exact (Reps.one (show Kd.M (Kd.int .u8) _ _ _ ((a0) % 256) [.int .u8 ((a0) % 256)] from rfl) (Reps.none _ _))); intro v477 w39 ho40 hb hg_ hnew_; clear hg_ hnew_; (rw [← Ny476.out] at ho40); have n0_ := Aside0.mk (Kd.R_lower ho40 (below_size (by exact HB.out))); have n1_ := Aside0.mk (below_step (by exact HB.out) hb); clear HB; have HO478 := n0_; have HB := n1_; clear n0_ n1_; clear hb ho40) | ((with_reducible refine gate_callee (f := 55) rfl ?_); refine goesL_ (some 13) rfl rfl Try.func55 (by kernel_rfl) rfl #[.int .i64 (l1.length : Int)] rfl (by (try simp only [List.map_toArray, List.map_cons, List.map_nil]); rfl) ?_; (with_reducible refine (peristyleref2_count.calls k (l1.length : Int) t479 _ A3.out).mono ?_); rintro e w41 ⟨v480, rfl, ho0, hb⟩; refine ⟨_, rfl, ?_⟩; have n0_ := Aside0.mk (Kd.R_elder' (by exact HO478.out) (Kd.R_base ho0) hb); have n1_ := Aside0.mk (Kd.R_lower (Kd.R_new' ho0 (Kd.R_lt (by exact HO478.out))) (below_size (by exact HB.out))); have n2_ := Aside0.mk (below_step (by exact HB.out) hb); clear HO478; clear HB; have HO478 := n0_; have HO481 := n1_; have HB := n2_; clear n0_ n1_ n2_; (try clear hb); (try clear ho0); obtain ⟨Ao43, co43, eo43⟩ := Kd.R_slice HO481.out; subst eo43) | ((with_reducible refine gate_builtin (b := .append) (xs := #[.tmp 10, .tmp 13]) rfl ?_); at_builtin; refine Kd.R_append_rows (Kd.int .u8) (w0 := w) w.heap.size rfl (.tmp 10) (.tmp 13) 27 5 (.int .u8 0) 1 rfl Try.underlying27 info5 rfl (by decide) (by omega) v477 y476 t479 _ _ _ (fun k_ => some k_ ≠ (.slice Ao43 t479.length co43 : Value).ownBlock) (fun _ => False) rfl rfl ?aO ?aR (fun _ _ h => h) (fun _ h => h.elim) ?aF ?aB ?aS ?aL ?_; (case aR => repeat (exact (Kd.R_reads' HO481.out).2.2)); (case aB => exact (by exact HB.out)); (case aF => exact (fun k_ hk => Kd.fresh' (Kd.R_lt (by exact HO481.out)) k_ hk)); (case aO => exact (by exact Kd.R_mono HO478.out (fun _ hk => hk.2))); (case aS => exact (below_size (by exact HB.out))); (case aL => have := LMc4.out; omega); intro v483 w42 ho hb hg hat; rw [← Ny482.out] at ho; have n0_ := Aside0.mk (Kd.R_after (ok := (fun _ => True)) (by exact HO481.out) hg hat); have n1_ := Aside0.mk (hb); have n2_ := Aside0.mk (ho); clear HO481; clear HB; clear HO478; have HO481 := n0_; have HB := n1_; have HO484 := n2_; clear n0_ n1_ n2_; clear ho hb hg hat) | ((with_reducible refine gate_callee (f := 83) rfl ?_); refine goesL_ (some 44) rfl rfl Try.func83 (by kernel_rfl) rfl #[.slice A1 l1.length c1] rfl (by (try simp only [List.map_toArray, List.map_cons, List.map_nil]); rfl) ?_; (with_reducible refine (peristyleref2_dict.calls k _ _ l1 t498 _ ?side1 ?side2 A37.out).mono ?_); (case side1 => repeat (exact (Kd.C_below HR1.out HB.out))); (case side2 => exact HC1.out); rintro e w44 ⟨v499, rfl, ho0, hb⟩; refine ⟨_, rfl, ?_⟩; have n0_ := Aside0.mk (Kd.R_elder' (by exact HO481.out) (Kd.R_base ho0) hb); have n1_ := Aside0.mk (Kd.R_elder' (by exact HO484.out) (Kd.R_base ho0) hb); have n2_ := Aside0.mk (Kd.R_lower (Kd.R_new' (Kd.R_new' ho0 (Kd.R_lt (by exact HO481.out))) (Kd.R_lt (by exact HO484.out))) (below_size (by exact HB.out))); have n3_ := Aside0.mk (below_step (by exact HB.out) hb); clear HO481; clear HO484; clear HB; have HO481 := n0_; have HO484 := n1_; have HO500 := n2_; have HB := n3_; clear n0_ n1_ n2_ n3_; (try clear hb); (try clear ho0); obtain ⟨Ao46, co46, eo46⟩ := Kd.R_slice HO500.out; subst eo46) | ((with_reducible refine gate_builtin (b := .append) (xs := #[.tmp 42, .tmp 44]) rfl ?_); at_builtin; refine Kd.R_append_rows (Kd.int .u8) (w0 := w) w.heap.size rfl (.tmp 42) (.tmp 44) 27 5 (.int .u8 0) 1 rfl Try.underlying27 info5 rfl (by decide) (by omega) v483 y482 t498 _ _ _ (fun k_ => some k_ ≠ (.slice Ao43 t479.length co43 : Value).ownBlock ∧ some k_ ≠ (.slice Ao46 t498.length co46 : Value).ownBlock) (fun _ => False) rfl rfl ?aO ?aR (fun _ _ h => h) (fun _ h => h.elim) ?aF ?aB ?aS ?aL ?_; (case aR => repeat (exact (Kd.R_reads' HO500.out).2.2)); (case aB => exact (by exact HB.out)); (case aF => exact (fun k_ hk => ⟨Kd.fresh' (Kd.R_lt (by exact HO481.out)) k_ hk, Kd.fresh' (Kd.R_lt (by exact HO500.out)) k_ hk⟩)); (case aO => exact (by exact HO484.out)); (case aS => exact (below_size (by exact HB.out))); (case aL => have := LMc38.out; omega); intro v502 w45 ho hb hg hat; rw [← Ny501.out] at ho; have n0_ := Aside0.mk (Kd.R_after (ok := (fun k_ => some k_ ≠ (.slice Ao46 t498.length co46 : Value).ownBlock)) (by exact Kd.R_mono HO481.out (fun _ hk => ⟨hk.2, hk.1.2⟩)) hg hat); have n1_ := Aside0.mk (Kd.R_after (ok := (fun k_ => some k_ ≠ (.slice Ao43 t479.length co43 : Value).ownBlock)) (by exact Kd.R_mono HO500.out (fun _ hk => ⟨hk.1.2, hk.2⟩)) hg hat); have n2_ := Aside0.mk (hb); have n3_ := Aside0.mk (ho); clear HO481; clear HO500; clear HB; clear HO484; have HO481 := n0_; have HO500 := n1_; have HB := n2_; have HO503 := n3_; clear n0_ n1_ n2_ n3_; clear ho hb hg hat))
       go_ret
       exact ⟨_, by rfl, by exact Kd.R_mono HO503.out (fun _ hk => trivial), by exact HB.out⟩
      ·rw [if_neg c38] at H
       exact absurd H (by simp)
     ·rw [if_neg c36] at H
      have c36b0 : (a0 == 3) = false := beq_eq_false_iff_ne.mpr c36
      have c36b1 : (a0 != 3) = true := bne_iff_ne.mpr c36
      by_cases c47 : a0 = 4
      ·rw [if_pos c47] at H
       have c47b0 : (a0 == 4) = true := beq_iff_eq.mpr c47
       have c47b1 : (a0 != 4) = false := bne_eq_false_iff_eq.mpr c47
       clear c47
       replace H := Option.bind_eq_some_iff.mp H
       obtain ⟨t504, A480, H⟩ := H
       replace H : (if y482.length + t504.length < 140737488355328 then (some (y482 ++ t504)) else (none)) = some r := H
       have A48 := Aside0.mk A480
       clear A480
       by_cases c49 : y482.length + t504.length < 140737488355328
       ·rw [if_pos c49] at H
        have LMc49 := Aside0.mk c49
        clear c49
        obtain ⟨y507, hy507⟩ : ∃ y_ : List Int, y_ = (y482 ++ t504) := ⟨_, rfl⟩
        replace H : (some y507) = some r := by (rw [hy507]; with_reducible exact H)
        have Ny507 := Aside0.mk hy507
        clear hy507
        obtain rfl := Option.some.inj H
        go_enter Try.func63, Try.ntmps63
        go_wp2_with (first | ((with_reducible refine gate_dst (N := 10) rfl ?_); refine Kd.R_lit (Kd.int .u8) _ 5 ?hg (N := 10) ?hd (xs := ([(a0) % 256] : List Int)) (inner := [.int .u8 ((a0) % 256)]) (ok := fun _ => True) (okp := fun _ => True) ?hr ?hp (fun _ hk => hk) trivial (Below.refl _ _) (Nat.le_refl _) (by simp) ?_; (case hd => rfl); (case hg => rfl); (case hr => (go_simp; done)); (case hp => exact (Reps.one (show Kd.M (Kd.int .u8) _ _ _ ((a0) % 256) [.int .u8 ((a0) % 256)] from rfl) (Reps.none _ _))); intro v477 w50 ho51 hb hg_ hnew_; clear hg_ hnew_; (rw [← Ny476.out] at ho51); have n0_ := Aside0.mk (Kd.R_lower ho51 (below_size (by exact HB.out))); have n1_ := Aside0.mk (below_step (by exact HB.out) hb); clear HB; have HO478 := n0_; have HB := n1_; clear n0_ n1_; clear hb ho51) | ((with_reducible refine gate_callee (f := 55) rfl ?_); refine goesL_ (some 13) rfl rfl Try.func55 (by kernel_rfl) rfl #[.int .i64 (l1.length : Int)] rfl (by (try simp only [List.map_toArray, List.map_cons, List.map_nil]); rfl) ?_; (with_reducible refine (peristyleref2_count.calls k (l1.length : Int) t479 _ A3.out).mono ?_); rintro e w52 ⟨v480, rfl, ho0, hb⟩; refine ⟨_, rfl, ?_⟩; have n0_ := Aside0.mk (Kd.R_elder' (by exact HO478.out) (Kd.R_base ho0) hb); have n1_ := Aside0.mk (Kd.R_lower (Kd.R_new' ho0 (Kd.R_lt (by exact HO478.out))) (below_size (by exact HB.out))); have n2_ := Aside0.mk (below_step (by exact HB.out) hb); clear HO478; clear HB; have HO478 := n0_; have HO481 := n1_; have HB := n2_; clear n0_ n1_ n2_; (try clear hb); (try clear ho0); obtain ⟨Ao54, co54, eo54⟩ := Kd.R_slice HO481.out; subst eo54) | ((with_reducible refine gate_builtin (b := .append) (xs := #[.tmp 10, .tmp 13]) rfl ?_); at_builtin; refine Kd.R_append_rows (Kd.int .u8) (w0 := w) w.heap.size rfl (.tmp 10) (.tmp 13) 27 5 (.int .u8 0) 1 rfl Try.underlying27 info5 rfl (by decide) (by omega) v477 y476 t479 _ _ _ (fun k_ => some k_ ≠ (.slice Ao54 t479.length co54 : Value).ownBlock) (fun _ => False) rfl rfl ?aO ?aR (fun _ _ h => h) (fun _ h => h.elim) ?aF ?aB ?aS ?aL ?_; (case aR => repeat (exact (Kd.R_reads' HO481.out).2.2)); (case aB => exact (by exact HB.out)); (case aF => exact (fun k_ hk => Kd.fresh' (Kd.R_lt (by exact HO481.out)) k_ hk)); (case aO => exact (by exact Kd.R_mono HO478.out (fun _ hk => hk.2))); (case aS => exact (below_size (by exact HB.out))); (case aL => have := LMc4.out; omega); intro v483 w53 ho hb hg hat; rw [← Ny482.out] at ho; have n0_ := Aside0.mk (Kd.R_after (ok := (fun _ => True)) (by exact HO481.out) hg hat); have n1_ := Aside0.mk (hb); have n2_ := Aside0.mk (ho); clear HO481; clear HB; clear HO478; have HO481 := n0_; have HB := n1_; have HO484 := n2_; clear n0_ n1_ n2_; clear ho hb hg hat) | ((with_reducible refine gate_callee (f := 84) rfl ?_); refine goesL_ (some 50) rfl rfl Try.func84 (by kernel_rfl) rfl #[.slice A1 l1.length c1] rfl (by (try simp only [List.map_toArray, List.map_cons, List.map_nil]); rfl) ?_; (with_reducible refine (peristyleref2_frame.calls k _ _ l1 t504 _ ?side1 ?side2 A48.out).mono ?_); (case side1 => repeat (exact (Kd.C_below HR1.out HB.out))); (case side2 => exact HC1.out); rintro e w55 ⟨v505, rfl, ho0, hb⟩; refine ⟨_, rfl, ?_⟩; have n0_ := Aside0.mk (Kd.R_elder' (by exact HO481.out) (Kd.R_base ho0) hb); have n1_ := Aside0.mk (Kd.R_elder' (by exact HO484.out) (Kd.R_base ho0) hb); have n2_ := Aside0.mk (Kd.R_lower (Kd.R_new' (Kd.R_new' ho0 (Kd.R_lt (by exact HO481.out))) (Kd.R_lt (by exact HO484.out))) (below_size (by exact HB.out))); have n3_ := Aside0.mk (below_step (by exact HB.out) hb); clear HO481; clear HO484; clear HB; have HO481 := n0_; have HO484 := n1_; have HO506 := n2_; have HB := n3_; clear n0_ n1_ n2_ n3_; (try clear hb); (try clear ho0); obtain ⟨Ao57, co57, eo57⟩ := Kd.R_slice HO506.out; subst eo57) | ((with_reducible refine gate_builtin (b := .append) (xs := #[.tmp 48, .tmp 50]) rfl ?_); at_builtin; refine Kd.R_append_rows (Kd.int .u8) (w0 := w) w.heap.size rfl (.tmp 48) (.tmp 50) 27 5 (.int .u8 0) 1 rfl Try.underlying27 info5 rfl (by decide) (by omega) v483 y482 t504 _ _ _ (fun k_ => some k_ ≠ (.slice Ao54 t479.length co54 : Value).ownBlock ∧ some k_ ≠ (.slice Ao57 t504.length co57 : Value).ownBlock) (fun _ => False) rfl rfl ?aO ?aR (fun _ _ h => h) (fun _ h => h.elim) ?aF ?aB ?aS ?aL ?_; (case aR => repeat (exact (Kd.R_reads' HO506.out).2.2)); (case aB => exact (by exact HB.out)); (case aF => exact (fun k_ hk => ⟨Kd.fresh' (Kd.R_lt (by exact HO481.out)) k_ hk, Kd.fresh' (Kd.R_lt (by exact HO506.out)) k_ hk⟩)); (case aO => exact (by exact HO484.out)); (case aS => exact (below_size (by exact HB.out))); (case aL => have := LMc49.out; omega); intro v508 w56 ho hb hg hat; rw [← Ny507.out] at ho; have n0_ := Aside0.mk (Kd.R_after (ok := (fun k_ => some k_ ≠ (.slice Ao57 t504.length co57 : Value).ownBlock)) (by exact Kd.R_mono HO481.out (fun _ hk => ⟨hk.2, hk.1.2⟩)) hg hat); have n1_ := Aside0.mk (Kd.R_after (ok := (fun k_ => some k_ ≠ (.slice Ao54 t479.length co54 : Value).ownBlock)) (by exact Kd.R_mono HO506.out (fun _ hk => ⟨hk.1.2, hk.2⟩)) hg hat); have n2_ := Aside0.mk (hb); have n3_ := Aside0.mk (ho); clear HO481; clear HO506; clear HB; clear HO484; have HO481 := n0_; have HO506 := n1_; have HB := n2_; have HO509 := n3_; clear n0_ n1_ n2_ n3_; clear ho hb hg hat))
        go_ret
        exact ⟨_, by rfl, by exact Kd.R_mono HO509.out (fun _ hk => trivial), by exact HB.out⟩
       ·rw [if_neg c49] at H
        exact absurd H (by simp)
      ·rw [if_neg c47] at H
       have c47b0 : (a0 == 4) = false := beq_eq_false_iff_ne.mpr c47
       have c47b1 : (a0 != 4) = true := bne_iff_ne.mpr c47
       replace H := Option.bind_eq_some_iff.mp H
       obtain ⟨t510, A580, H⟩ := H
       replace H : (if y482.length + t510.length < 140737488355328 then (some (y482 ++ t510)) else (none)) = some r := H
       have A58 := Aside0.mk A580
       clear A580
       by_cases c59 : y482.length + t510.length < 140737488355328
       ·rw [if_pos c59] at H
        have LMc59 := Aside0.mk c59
        clear c59
        obtain ⟨y513, hy513⟩ : ∃ y_ : List Int, y_ = (y482 ++ t510) := ⟨_, rfl⟩
        replace H : (some y513) = some r := by (rw [hy513]; with_reducible exact H)
        have Ny513 := Aside0.mk hy513
        clear hy513
        obtain rfl := Option.some.inj H
        go_enter Try.func63, Try.ntmps63
        go_wp2_with (first | ((with_reducible refine gate_dst (N := 10) rfl ?_); refine Kd.R_lit (Kd.int .u8) _ 5 ?hg (N := 10) ?hd (xs := ([(a0) % 256] : List Int)) (inner := [.int .u8 ((a0) % 256)]) (ok := fun _ => True) (okp := fun _ => True) ?hr ?hp (fun _ hk => hk) trivial (Below.refl _ _) (Nat.le_refl _) (by simp) ?_; (case hd => rfl); (case hg => rfl); (case hr => (go_simp; done)); (case hp => exact (Reps.one (show Kd.M (Kd.int .u8) _ _ _ ((a0) % 256) [.int .u8 ((a0) % 256)] from rfl) (Reps.none _ _))); intro v477 w60 ho61 hb hg_ hnew_; clear hg_ hnew_; (rw [← Ny476.out] at ho61); have n0_ := Aside0.mk (Kd.R_lower ho61 (below_size (by exact HB.out))); have n1_ := Aside0.mk (below_step (by exact HB.out) hb); clear HB; have HO478 := n0_; have HB := n1_; clear n0_ n1_; clear hb ho61) | ((with_reducible refine gate_callee (f := 55) rfl ?_); refine goesL_ (some 13) rfl rfl Try.func55 (by kernel_rfl) rfl #[.int .i64 (l1.length : Int)] rfl (by (try simp only [List.map_toArray, List.map_cons, List.map_nil]); rfl) ?_; (with_reducible refine (peristyleref2_count.calls k (l1.length : Int) t479 _ A3.out).mono ?_); rintro e w62 ⟨v480, rfl, ho0, hb⟩; refine ⟨_, rfl, ?_⟩; have n0_ := Aside0.mk (Kd.R_elder' (by exact HO478.out) (Kd.R_base ho0) hb); have n1_ := Aside0.mk (Kd.R_lower (Kd.R_new' ho0 (Kd.R_lt (by exact HO478.out))) (below_size (by exact HB.out))); have n2_ := Aside0.mk (below_step (by exact HB.out) hb); clear HO478; clear HB; have HO478 := n0_; have HO481 := n1_; have HB := n2_; clear n0_ n1_ n2_; (try clear hb); (try clear ho0); obtain ⟨Ao64, co64, eo64⟩ := Kd.R_slice HO481.out; subst eo64) | ((with_reducible refine gate_builtin (b := .append) (xs := #[.tmp 10, .tmp 13]) rfl ?_); at_builtin; refine Kd.R_append_rows (Kd.int .u8) (w0 := w) w.heap.size rfl (.tmp 10) (.tmp 13) 27 5 (.int .u8 0) 1 rfl Try.underlying27 info5 rfl (by decide) (by omega) v477 y476 t479 _ _ _ (fun k_ => some k_ ≠ (.slice Ao64 t479.length co64 : Value).ownBlock) (fun _ => False) rfl rfl ?aO ?aR (fun _ _ h => h) (fun _ h => h.elim) ?aF ?aB ?aS ?aL ?_; (case aR => repeat (exact (Kd.R_reads' HO481.out).2.2)); (case aB => exact (by exact HB.out)); (case aF => exact (fun k_ hk => Kd.fresh' (Kd.R_lt (by exact HO481.out)) k_ hk)); (case aO => exact (by exact Kd.R_mono HO478.out (fun _ hk => hk.2))); (case aS => exact (below_size (by exact HB.out))); (case aL => have := LMc4.out; omega); intro v483 w63 ho hb hg hat; rw [← Ny482.out] at ho; have n0_ := Aside0.mk (Kd.R_after (ok := (fun _ => True)) (by exact HO481.out) hg hat); have n1_ := Aside0.mk (hb); have n2_ := Aside0.mk (ho); clear HO481; clear HB; clear HO478; have HO481 := n0_; have HB := n1_; have HO484 := n2_; clear n0_ n1_ n2_; clear ho hb hg hat) | ((with_reducible refine gate_callee (f := 85) rfl ?_); refine goesL_ (some 54) rfl rfl Try.func85 (by kernel_rfl) rfl #[.slice A1 l1.length c1] rfl (by (try simp only [List.map_toArray, List.map_cons, List.map_nil]); rfl) ?_; (with_reducible refine (peristyleref2_deltas.calls k _ _ l1 t510 _ ?side1 ?side2 A58.out).mono ?_); (case side1 => repeat (exact (Kd.C_below HR1.out HB.out))); (case side2 => exact HC1.out); rintro e w65 ⟨v511, rfl, ho0, hb⟩; refine ⟨_, rfl, ?_⟩; have n0_ := Aside0.mk (Kd.R_elder' (by exact HO481.out) (Kd.R_base ho0) hb); have n1_ := Aside0.mk (Kd.R_elder' (by exact HO484.out) (Kd.R_base ho0) hb); have n2_ := Aside0.mk (Kd.R_lower (Kd.R_new' (Kd.R_new' ho0 (Kd.R_lt (by exact HO481.out))) (Kd.R_lt (by exact HO484.out))) (below_size (by exact HB.out))); have n3_ := Aside0.mk (below_step (by exact HB.out) hb); clear HO481; clear HO484; clear HB; have HO481 := n0_; have HO484 := n1_; have HO512 := n2_; have HB := n3_; clear n0_ n1_ n2_ n3_; (try clear hb); (try clear ho0); obtain ⟨Ao67, co67, eo67⟩ := Kd.R_slice HO512.out; subst eo67) | ((with_reducible refine gate_builtin (b := .append) (xs := #[.tmp 52, .tmp 54]) rfl ?_); at_builtin; refine Kd.R_append_rows (Kd.int .u8) (w0 := w) w.heap.size rfl (.tmp 52) (.tmp 54) 27 5 (.int .u8 0) 1 rfl Try.underlying27 info5 rfl (by decide) (by omega) v483 y482 t510 _ _ _ (fun k_ => some k_ ≠ (.slice Ao64 t479.length co64 : Value).ownBlock ∧ some k_ ≠ (.slice Ao67 t510.length co67 : Value).ownBlock) (fun _ => False) rfl rfl ?aO ?aR (fun _ _ h => h) (fun _ h => h.elim) ?aF ?aB ?aS ?aL ?_; (case aR => repeat (exact (Kd.R_reads' HO512.out).2.2)); (case aB => exact (by exact HB.out)); (case aF => exact (fun k_ hk => ⟨Kd.fresh' (Kd.R_lt (by exact HO481.out)) k_ hk, Kd.fresh' (Kd.R_lt (by exact HO512.out)) k_ hk⟩)); (case aO => exact (by exact HO484.out)); (case aS => exact (below_size (by exact HB.out))); (case aL => have := LMc59.out; omega); intro v514 w66 ho hb hg hat; rw [← Ny513.out] at ho; have n0_ := Aside0.mk (Kd.R_after (ok := (fun k_ => some k_ ≠ (.slice Ao67 t510.length co67 : Value).ownBlock)) (by exact Kd.R_mono HO481.out (fun _ hk => ⟨hk.2, hk.1.2⟩)) hg hat); have n1_ := Aside0.mk (Kd.R_after (ok := (fun k_ => some k_ ≠ (.slice Ao64 t479.length co64 : Value).ownBlock)) (by exact Kd.R_mono HO512.out (fun _ hk => ⟨hk.1.2, hk.2⟩)) hg hat); have n2_ := Aside0.mk (hb); have n3_ := Aside0.mk (ho); clear HO481; clear HO512; clear HB; clear HO484; have HO481 := n0_; have HO512 := n1_; have HB := n2_; have HO515 := n3_; clear n0_ n1_ n2_ n3_; clear ho hb hg hat))
        go_ret
        exact ⟨_, by rfl, by exact Kd.R_mono HO515.out (fun _ hk => trivial), by exact HB.out⟩
       ·rw [if_neg c59] at H
        exact absurd H (by simp)
 ·rw [if_neg c4] at H
  exact absurd H (by simp)

end Go.Proofs.Ythhdihnaicggiaa.I
