/- Printed by a program of this session: Lean functions that answer as the Go functions do, with the proofs of it. No conditions beyond those in each theorem. -/
import Derived.Test.YthhdihnaicggiaaProg
import Derived.Test.YthhdihnaicggiaaDV
import Derived.Below
import Derived.Deep.Draws
import Derived.Deep.AppendLies
import Derived.Maps.AppendAt
import Derived.OwnWalk
import Derived.Laws.BytesArg
import Derived.Laws.MakeOwn
import Derived.Laws.OwnMore
import Derived.Deep.OwnRows
import Derived.Tactics
import Derived.Lib.ConvBytes
import Derived.Laws.Slices
import Derived.WalkKit
import Derived.KernelRfl
import Derived.RowKit3
import Derived.Deep.LoopGhost
import Derived.Deep.QuietTactic
import Derived.BigQuiet
import Derived.WideLaws
import Derived.Deep.DeepCutAuto
import Derived.Deep.CutBlock
import Derived.Deep.RegionHeld3
import Derived.Laws.Rows
import Derived.Lib.AppendStr
import Derived.ArgAppend
import Derived.Laws.IdiomCopy
import Derived.OrdersHeld
import Derived.Laws.BitsLemmas
import Derived.RowKit
import Derived.Lib.Strings
import Derived.Lib.Slices
import Derived.Lib.Walk
import Derived.Lib.Bytealg
import Derived.Test.YthhdihnaicggiaaSg
import Derived.Test.YthhdihnaicggiaaHxD
import Derived.Test.YthhdihnaicggiaaHsD
namespace Go.Proofs.Ythhdihnaicggiaa.D
open Go.RowKit Go.Proofs.YthhdihnaicggiaaW.PrintWords Go.Proofs.YthhdihnaicggiaaW.PrintLast Go.Proofs.YthhdihnaicggiaaW.PrintMore
attribute [local go_sem] max2_int min2_int max_two min_two max_three min_three max_four min_four gtr_str leq_str geq_str   -- for this text's walks alone
set_option linter.unusedVariables false
set_option linter.unusedSimpArgs false
def errW : Option Int → Value
 | none => .nilIface
 | some c => .iface 0 (.int .i64 c)
theorem errW_none : errW none = .nilIface := rfl
theorem errW_some (c : Int) : errW (some c) = .iface 0 (.int .i64 c) := rfl
theorem info3 : (Try.prog.info? 3).map (fun i => (i.zero, i.size, i.bytes)) = some (some (.int .i64 0), 1, 8) := by kernel_rfl
theorem info5 : (Try.prog.info? 5).map (fun i => (i.zero, i.size, i.bytes)) = some (some (.int .u8 0), 1, 1) := by kernel_rfl
theorem info9 : (Try.prog.info? 9).map (fun i => (i.zero, i.size, i.bytes)) = some (some (.string ⟨#[]⟩), 1, 16) := by kernel_rfl
-- the values' own types
def kit_In.f (a0 : Int) (a1 : Int) (a2 : Int) : Option (Bool) := if a1 ≤ a0 then (some (decide (a0 ≤ a2))) else (some false)
set_option maxHeartbeats 8000000 in
set_option maxRecDepth 100000 in
theorem kit_In.calls (a0 : Int) (a1 : Int) (a2 : Int) (r : Bool) (w : World) (h : kit_In.f a0 a1 a2 = some r) :
 Calls Try.prog 52 #[.int .i64 a0, .int .i64 a1, .int .i64 a2] w fun e w' => e = .returned (.bool r) ∧ Drawn0 w w' := by
 have H : (if a1 ≤ a0 then (some (decide (a0 ≤ a2))) else (some false)) = some r := h
 clear h
 by_cases c4 : a1 ≤ a0
 ·rw [if_pos c4] at H
  have c4b0 : decide (a1 ≤ a0) = true := decide_eq_true c4
  clear c4
  obtain rfl := Option.some.inj H
  go_enter Try.func52, Try.ntmps52
  go_wp2
  go_ret
  exact ⟨by rfl, by repeat (exact Drawn0.refl _)⟩
 ·rw [if_neg c4] at H
  have c4b0 : decide (a1 ≤ a0) = false := decide_eq_false c4
  clear c4
  obtain rfl := Option.some.inj H
  go_enter Try.func52, Try.ntmps52
  go_wp2
  go_ret
  exact ⟨by rfl, by repeat (exact Drawn0.refl _)⟩
def e_check.l0 : Nat → List Int → Int → Int → Option (Int)
 | 0, _, _, _ => none
 | k + 1, x8, x9, x10 => if x10 < x9 then (if 0 ≤ x10 then (if x10 < (x8.length : Int) then ((kit_In.f (rd x8 x10) (-1000000000000000) 1000000000000000).bind fun t102 => (if t102 = true then (e_check.l0 k x8 x9 (wrap64 (x10 + 1))) else (some 1))) else (none)) else (none)) else (some 0)
def e_check.f (k : Nat) (l0 : List Int) : Option (Int) := if (l0.length : Int) > 2000 then (some 2) else (e_check.l0 k l0 (l0.length : Int) 0)
theorem e_check.mono_l : ∀ k, (∀ y0 y1 y2, LeO (e_check.l0 k y0 y1 y2) (e_check.l0 (k + 1) y0 y1 y2))
 | 0 => fun _ _ _ r h => by simp [e_check.l0] at h
 | k + 1 => by
  have ih0 := e_check.mono_l k
  ·intro y0 y1 y2
   unfold e_check.l0
   repeat' first
   | (with_reducible exact ih0 _ _ _)
   | (with_reducible exact LeO.refl _)
   | (with_reducible refine LeO.ite ?_ ?_)
   | (with_reducible refine LeO.bind ?_ (fun _ => ?_))
theorem e_check.mono : ∀ a0 k, LeO (e_check.f k a0) (e_check.f (k + 1) a0) := by
 intro a0 k
 have ih0 := e_check.mono_l k
 unfold e_check.f
 repeat' first
  | (with_reducible exact ih0 _ _ _)
  | (with_reducible exact LeO.refl _)
  | (with_reducible refine LeO.ite ?_ ?_)
set_option maxHeartbeats 8000000 in
set_option maxRecDepth 100000 in
theorem e_check.calls (k : Nat) (A0 : Option Addr) (c0 : Nat) (l0 : List Int) (r : Int) (w : World) (hr0 : Kd.C (Kd.int .i64) w A0 l0.length l0) (hc0 : l0.length ≤ c0) (h : e_check.f k l0 = some r) :
 Calls Try.prog 50 #[.slice A0 l0.length c0] w fun e w' => e = .returned (.int .i64 r) ∧ Drawn0 w w' := by
 have HR0 := Ak hr0
 have HC0 := Ak hc0
 clear hr0 hc0
 have H : (if (l0.length : Int) > 2000 then (some 2) else (e_check.l0 k l0 (l0.length : Int) 0)) = some r := h
 clear h
 by_cases c2 : (l0.length : Int) > 2000
 ·rw [if_pos c2] at H
  have c2b0 : decide (2000 < (l0.length : Int)) = true := decide_eq_true c2
  have c2b1 : decide (2000 < l0.length) = true := decide_eq_true (by omega)
  clear c2
  obtain rfl := Option.some.inj H
  go_enter Try.func50, Try.ntmps50
  go_wp2
  go_ret
  exact ⟨by rfl, by repeat (exact Drawn0.refl _)⟩
 ·rw [if_neg c2] at H
  have c2b0 : decide (2000 < (l0.length : Int)) = false := decide_eq_false c2
  have c2b1 : decide (2000 < l0.length) = false := decide_eq_false (by omega)
  clear c2
  have H' := Ak H
  clear H
  go_enter Try.func50, Try.ntmps50
  go_wp2
  go_loopg [10] k (fun kq v10 w' => ∃ (x10_1 : Int), v10 = .int .i64 x10_1 ∧ Aside0 (e_check.l0 kq l0 (l0.length : Int) x10_1 = some r) ∧ Aside0 (kq ≤ k) ∧ Drawn0 w w')
  case atStart => exact ⟨(0), (by rfl), H', ⟨Nat.le_refl _⟩, by repeat (exact Drawn0.refl _)⟩
  case round =>
   clear H'
   try clear c2b0
   try clear c2b1
   obtain ⟨x10_1, rfl, HA, HK1, ⟨m1, rfl⟩⟩ := hrel
   cases gk with
   | zero => exact absurd HA.out (by simp [e_check.l0])
   | succ k1 =>
    have H := HA.out
    clear HA
    simp only [e_check.l0] at H
    by_cases c3 : x10_1 < (l0.length : Int)
    ·rw [if_pos c3] at H
     have c3b0 : decide (x10_1 < (l0.length : Int)) = true := decide_eq_true c3
     clear c3
     by_cases c4 : 0 ≤ x10_1
     ·rw [if_pos c4] at H
      have c4b0 : decide (0 ≤ x10_1) = true := decide_eq_true c4
      clear c4
      by_cases c5 : x10_1 < (l0.length : Int)
      ·rw [if_pos c5] at H
       have c5b0 : decide (x10_1 < (l0.length : Int)) = true := decide_eq_true c5
       clear c5
       replace H := Option.bind_eq_some_iff.mp H
       obtain ⟨t102, A60, H⟩ := H
       replace H : (if t102 = true then (e_check.l0 k1 l0 (l0.length : Int) (wrap64 (x10_1 + 1))) else (some 1)) = some r := H
       have A6 := Ak A60
       clear A60
       by_cases c7 : t102 = true
       ·subst c7
        replace H : (e_check.l0 k1 l0 (l0.length : Int) (wrap64 (x10_1 + 1))) = some r := by rw [if_pos rfl] at H; exact H
        have H' := Ak H
        clear H
        have p101 : 0 ≤ (x10_1 : Int) := of_decide_eq_true (by (with_reducible assumption))
        have q101 : x10_1 < (l0.length : Int) := of_decide_eq_true (by (with_reducible assumption))
        obtain ⟨ad101, e101, hx101_0⟩ := Kd.at_int HR0.out x10_1 p101 q101
        cases e101
        replace p101 := eq_true p101
        replace q101 := eq_true q101
        go_wp2_with (first | ((with_reducible refine gate_callee (f := 52) rfl ?_); refine goesL_ (some 15) rfl rfl Try.func52 (by kernel_rfl) rfl #[.int .i64 (rd l0 x10_1), .int .i64 (-1000000000000000), .int .i64 1000000000000000] rfl (by (try simp only [lm]); rfl) ?_; (with_reducible refine (kit_In.calls (rd l0 x10_1) (-1000000000000000) 1000000000000000 true _ A6.out).mono ?_); rintro e w' ⟨rfl, ⟨nd, rfl⟩⟩; refine ⟨_, rfl, ?_⟩))
        go_roundg k1
        case measure => have := HK1.out; omega
        case rel => exact ⟨(wrap64 (x10_1 + 1)), (by rfl), H', ⟨by have := HK1.out; omega⟩, by repeat (first | exact Drawn0.refl _ | apply Drawn0.step)⟩
       ·replace c7 := Bool.eq_false_iff.mpr c7
        subst c7
        replace H : (some 1) = some r := by rw [if_neg (show ¬ (false = true) by decide)] at H; exact H
        obtain rfl := Option.some.inj H
        have p101 : 0 ≤ (x10_1 : Int) := of_decide_eq_true (by (with_reducible assumption))
        have q101 : x10_1 < (l0.length : Int) := of_decide_eq_true (by (with_reducible assumption))
        obtain ⟨ad101, e101, hx101_0⟩ := Kd.at_int HR0.out x10_1 p101 q101
        cases e101
        replace p101 := eq_true p101
        replace q101 := eq_true q101
        go_wp2_with (first | ((with_reducible refine gate_callee (f := 52) rfl ?_); refine goesL_ (some 15) rfl rfl Try.func52 (by kernel_rfl) rfl #[.int .i64 (rd l0 x10_1), .int .i64 (-1000000000000000), .int .i64 1000000000000000] rfl (by (try simp only [lm]); rfl) ?_; (with_reducible refine (kit_In.calls (rd l0 x10_1) (-1000000000000000) 1000000000000000 false _ A6.out).mono ?_); rintro e w' ⟨rfl, ⟨nd, rfl⟩⟩; refine ⟨_, rfl, ?_⟩))
        go_ret
        exact ⟨by rfl, by repeat (first | exact Drawn0.refl _ | apply Drawn0.step)⟩
      ·rw [if_neg c5] at H
       exact absurd H (by simp)
     ·rw [if_neg c4] at H
      exact absurd H (by simp)
    ·rw [if_neg c3] at H
     have c3b0 : decide (x10_1 < (l0.length : Int)) = false := decide_eq_false c3
     clear c3
     obtain rfl := Option.some.inj H
     go_wp2
     go_ret
     exact ⟨by rfl, by repeat (first | exact Drawn0.refl _ | apply Drawn0.step)⟩
-- (written by hand)
def s_Min.f (l0 : List Int) : Option Int := if l0 = [] then none else some (Lib.minOf l0)
theorem s_Min.calls (A0 : Option Addr) (c0 : Nat) (l0 : List Int) (r : Int) (w : World) (hr0 : Kd.C (Kd.int .i64) w A0 l0.length l0) (hc0 : l0.length ≤ c0) (h : s_Min.f l0 = some r) :
 Calls Try.prog 30 #[.slice A0 l0.length c0] w fun e w' => e = .returned (.int .i64 r) ∧ Drawn0 w w' := by
 unfold s_Min.f at h
 split at h
 case isTrue => cases h
 rename_i hne
 obtain rfl := Option.some.inj h
 have hp : 0 < l0.length := List.length_pos_iff.2 hne
 obtain ⟨b, off, rfl, hc⟩ := C_addr hr0 hp
 refine (Try.slices_Min_int b off l0.length c0 l0 w hp (Nat.le_refl _) hr0.2.1 hc).mono ?_
 rintro e w' ⟨rfl, rfl⟩
 exact ⟨by rw [List.take_length], Drawn0.refl _⟩
-- (written by hand)
def s_Max.f (l0 : List Int) : Option Int := if l0 = [] then none else some (Lib.maxOf l0)
theorem s_Max.calls (A0 : Option Addr) (c0 : Nat) (l0 : List Int) (r : Int) (w : World) (hr0 : Kd.C (Kd.int .i64) w A0 l0.length l0) (hc0 : l0.length ≤ c0) (h : s_Max.f l0 = some r) :
 Calls Try.prog 31 #[.slice A0 l0.length c0] w fun e w' => e = .returned (.int .i64 r) ∧ Drawn0 w w' := by
 unfold s_Max.f at h
 split at h
 case isTrue => cases h
 rename_i hne
 obtain rfl := Option.some.inj h
 have hp : 0 < l0.length := List.length_pos_iff.2 hne
 obtain ⟨b, off, rfl, hc⟩ := C_addr hr0 hp
 refine (Try.slices_Max_int b off l0.length c0 l0 w hp (Nat.le_refl _) hr0.2.1 hc).mono ?_
 rintro e w' ⟨rfl, rfl⟩
 exact ⟨by rw [List.take_length], Drawn0.refl _⟩
def e_count.l0 : Nat → List Int → Int → Option (List Int)
 | 0, _, _ => none
 | k + 1, x0, x1 => if x1 > 127 then (if x0.length < 140737488355328 then (e_count.l0 k (x0 ++ [(Go.bits .or .u64 (Go.bits .and .u64 x1 127) 128) % 256]) (x1 / 128)) else (none)) else (if x0.length < 140737488355328 then (some (x0 ++ [(x1) % 256])) else (none))
def e_count.f (k : Nat) (l0 : List Int) (a1 : Int) : Option (List Int) := e_count.l0 k l0 a1
theorem e_count.mono_l : ∀ k, (∀ y0 y1, LeO (e_count.l0 k y0 y1) (e_count.l0 (k + 1) y0 y1))
 | 0 => fun _ _ r h => by simp [e_count.l0] at h
 | k + 1 => by
  have ih0 := e_count.mono_l k
  ·intro y0 y1
   unfold e_count.l0
   repeat' first
   | (with_reducible exact ih0 _ _)
   | (with_reducible exact LeO.refl _)
   | (with_reducible refine LeO.ite ?_ ?_)
theorem e_count.mono : ∀ a0 a1 k, LeO (e_count.f k a0 a1) (e_count.f (k + 1) a0 a1) := by
 intro a0 a1 k
 have ih0 := e_count.mono_l k
 unfold e_count.f
 repeat' first
  | (with_reducible exact ih0 _ _)
set_option maxHeartbeats 8000000 in
set_option maxRecDepth 100000 in
theorem e_count.calls (k : Nat) (P0_ : Nat → Prop) (u9000_ : Value) (l0 : List Int) (a1 : Int) (r : List Int) (w0 w : World) (hB : Below w0.heap.size w0 w) (ho0 : Kd.R (Kd.int .u8) 5 w w0.heap.size P0_ u9000_ l0) (h : e_count.f k l0 a1 = some r) :
 Calls Try.prog 74 #[u9000_, .int .u64 a1] w fun e w' => ∃ v0_ : Value, e = .returned (v0_) ∧ Kd.R (Kd.int .u8) 5 w' w0.heap.size (fun k_ => (P0_ k_ ∨ w.heap.size ≤ k_)) v0_ r ∧ Below w0.heap.size w0 w' ∧ Kept w w' (fun k_ => P0_ k_) := by
 have HO0 := Ak (show Kd.R (Kd.int .u8) 5 w w0.heap.size (fun k_ => (P0_ k_ ∨ w.heap.size ≤ k_)) u9000_ l0 from Kd.R_mono ho0 (fun k_ hk => (.inl hk)))
 have HK := Ak (Kept.refl w (fun k_ => P0_ k_))
 have HW0 := Ak hB.size
 have HB := Ak hB
 clear hB
 have H : (e_count.l0 k l0 a1) = some r := h
 clear h
 have H' := Ak H
 clear H
 go_enter Try.func74, Try.ntmps74
 go_wp2
 go_loopg [0, 1] k (fun kq v0 v1 w' => ∃ (x0_1 : List Int) (x1_1 : Int), v1 = .int .u64 x1_1 ∧ Aside0 (e_count.l0 kq x0_1 x1_1 = some r) ∧ Aside0 (kq ≤ k) ∧ Aside0 (Kd.R (Kd.int .u8) 5 w' w0.heap.size (fun k_ => (P0_ k_ ∨ w.heap.size ≤ k_)) v0 x0_1) ∧ Aside0 (Kept w w' (fun k_ => P0_ k_)) ∧ Aside0 (Below w0.heap.size w0 w'))
 case atStart => exact ⟨(l0), (a1), (by rfl), H', ⟨Nat.le_refl _⟩, ⟨by exact HO0.out⟩, ⟨by exact HK.out⟩, ⟨by exact HB.out⟩⟩
 case round =>
  clear H'
  obtain ⟨x0_1, x1_1, rfl, HA, HK1, HO_0, HK, HB⟩ := hrel
  cases gk with
  | zero => exact absurd HA.out (by simp [e_count.l0])
  | succ k1 =>
   have H := HA.out
   clear HA
   simp only [e_count.l0] at H
   by_cases c3 : x1_1 > 127
   ·rw [if_pos c3] at H
    have c3b0 : decide (127 < x1_1) = true := decide_eq_true c3
    clear c3
    by_cases c4 : x0_1.length < 140737488355328
    ·rw [if_pos c4] at H
     have LMc4 := Ak c4
     clear c4
     obtain ⟨y103, hy103⟩ : ∃ y_ : List Int, y_ = (x0_1 ++ [(Go.bits .or .u64 (Go.bits .and .u64 x1_1 127) 128) % 256]) := ⟨_, rfl⟩
     replace H : (e_count.l0 k1 y103 (x1_1 / 128)) = some r := by (rw [hy103]; with_reducible exact H)
     have Ny103 := Ak hy103
     clear hy103
     have H' := Ak H
     clear H
     go_wp2_with (first | ((with_reducible refine gate_builtin (b := .append) (xs := #[.tmp 7, .tmp 12]) rfl ?_); at_builtin; refine Kd.R_append (Kd.int .u8) (w0 := w0) w0.heap.size rfl (.tmp 7) (.tmp 12) 27 5 (.int .u8 0) 1 rfl Try.underlying27 info5 rfl (by decide) (by omega) u0 x0_1 ((Go.bits .or .u64 (Go.bits .and .u64 x1_1 127) 128) % 256) [.int .u8 ((Go.bits .or .u64 (Go.bits .and .u64 x1_1 127) 128) % 256)] (fun k_ => (P0_ k_ ∨ w.heap.size ≤ k_)) (fun _ => False) rfl rfl ?aP (fun _ hk => hk.elim) ?aF ?aO ?aB ?aS ?aL ?_; (case aP => exact rfl); (case aB => exact (by exact HB.out)); (case aF => exact (fun k_ hk => (.inr (Nat.le_trans (by exact HK.out.1) hk)))); (case aO => exact (by exact HO_0.out)); (case aS => exact (below_size (by exact HB.out))); (case aL => have := LMc4.out; omega); intro v104 w5 ho hb hg hat; rw [← Ny103.out] at ho; have n0_ := Ak (hb); have n1_ := Ak (Kept.of_grown (S := (fun k_ => P0_ k_)) hg (by exact HK.out) (fun k_ e_ => (HO_0.out.1 k_ e_))); have n2_ := Ak (ho); clear HB HK HO_0; have HB := n0_; have HK := n1_; have HO105 := n2_; clear n0_ n1_ n2_ ho hb hg hat))
     go_roundg k1
     case measure => have := HK1.out; omega
     case rel => exact ⟨(y103), (x1_1 / 128), (by rfl), H', ⟨by have := HK1.out; omega⟩, ⟨by exact HO105.out⟩, ⟨by exact HK.out⟩, ⟨by exact HB.out⟩⟩
    ·rw [if_neg c4] at H
     exact absurd H (by simp)
   ·rw [if_neg c3] at H
    have c3b0 : decide (127 < x1_1) = false := decide_eq_false c3
    clear c3
    by_cases c6 : x0_1.length < 140737488355328
    ·rw [if_pos c6] at H
     have LMc6 := Ak c6
     clear c6
     obtain ⟨y106, hy106⟩ : ∃ y_ : List Int, y_ = (x0_1 ++ [(x1_1) % 256]) := ⟨_, rfl⟩
     replace H : (some y106) = some r := by (rw [hy106]; with_reducible exact H)
     have Ny106 := Ak hy106
     clear hy106
     obtain rfl := Option.some.inj H
     go_wp2_with (first | ((with_reducible refine gate_builtin (b := .append) (xs := #[.tmp 16, .tmp 19]) rfl ?_); at_builtin; refine Kd.R_append (Kd.int .u8) (w0 := w0) w0.heap.size rfl (.tmp 16) (.tmp 19) 27 5 (.int .u8 0) 1 rfl Try.underlying27 info5 rfl (by decide) (by omega) u0 x0_1 ((x1_1) % 256) [.int .u8 ((x1_1) % 256)] (fun k_ => (P0_ k_ ∨ w.heap.size ≤ k_)) (fun _ => False) rfl rfl ?aP (fun _ hk => hk.elim) ?aF ?aO ?aB ?aS ?aL ?_; (case aP => exact rfl); (case aB => exact (by exact HB.out)); (case aF => exact (fun k_ hk => (.inr (Nat.le_trans (by exact HK.out.1) hk)))); (case aO => exact (by exact HO_0.out)); (case aS => exact (below_size (by exact HB.out))); (case aL => have := LMc6.out; omega); intro v107 w7 ho hb hg hat; rw [← Ny106.out] at ho; have n0_ := Ak (hb); have n1_ := Ak (Kept.of_grown (S := (fun k_ => P0_ k_)) hg (by exact HK.out) (fun k_ e_ => (HO_0.out.1 k_ e_))); have n2_ := Ak (ho); clear HB HK HO_0; have HB := n0_; have HK := n1_; have HO108 := n2_; clear n0_ n1_ n2_ ho hb hg hat))
     go_ret
     exact ⟨_, by rfl, by exact HO108.out, by exact HB.out, by exact HK.out⟩
    ·rw [if_neg c6] at H
     exact absurd H (by simp)
def e_number.f (k : Nat) (l0 : List Int) (a1 : Int) : Option (List Int) := if a1 < 0 then ((e_count.f k l0 (IntKind.u64.wrap ((IntKind.u64.wrap (2 * (IntKind.u64.wrap (wrap64 (-a1))))) - 1))).bind fun t109 => (some t109)) else ((e_count.f k l0 (IntKind.u64.wrap (2 * (IntKind.u64.wrap (a1))))).bind fun t112 => (some t112))
theorem e_number.mono : ∀ a0 a1 k, LeO (e_number.f k a0 a1) (e_number.f (k + 1) a0 a1) := by
 intro a0 a1 k
 unfold e_number.f
 repeat' first
  | (with_reducible exact e_count.mono _ _ _)
  | (with_reducible exact LeO.refl _)
  | (with_reducible refine LeO.ite ?_ ?_)
  | (with_reducible refine LeO.bind ?_ (fun _ => ?_))
set_option maxHeartbeats 8000000 in
set_option maxRecDepth 100000 in
theorem e_number.calls (k : Nat) (P0_ : Nat → Prop) (u9000_ : Value) (l0 : List Int) (a1 : Int) (r : List Int) (w0 w : World) (hB : Below w0.heap.size w0 w) (ho0 : Kd.R (Kd.int .u8) 5 w w0.heap.size P0_ u9000_ l0) (h : e_number.f k l0 a1 = some r) :
 Calls Try.prog 75 #[u9000_, .int .i64 a1] w fun e w' => ∃ v0_ : Value, e = .returned (v0_) ∧ Kd.R (Kd.int .u8) 5 w' w0.heap.size (fun k_ => (P0_ k_ ∨ w.heap.size ≤ k_)) v0_ r ∧ Below w0.heap.size w0 w' ∧ Kept w w' (fun k_ => P0_ k_) := by
 have HO0 := Ak (show Kd.R (Kd.int .u8) 5 w w0.heap.size (fun k_ => (P0_ k_ ∨ w.heap.size ≤ k_)) u9000_ l0 from Kd.R_mono ho0 (fun k_ hk => (.inl hk)))
 have HK := Ak (Kept.refl w (fun k_ => P0_ k_))
 have HW0 := Ak hB.size
 have HB := Ak hB
 clear hB
 have H : (if a1 < 0 then ((e_count.f k l0 (IntKind.u64.wrap ((IntKind.u64.wrap (2 * (IntKind.u64.wrap (wrap64 (-a1))))) - 1))).bind fun t109 => (some t109)) else ((e_count.f k l0 (IntKind.u64.wrap (2 * (IntKind.u64.wrap (a1))))).bind fun t112 => (some t112))) = some r := h
 clear h
 by_cases c3 : a1 < 0
 ·rw [if_pos c3] at H
  have c3b0 : decide (a1 < 0) = true := decide_eq_true c3
  clear c3
  replace H := Option.bind_eq_some_iff.mp H
  obtain ⟨t109, A40, H⟩ := H
  replace H : (some t109) = some r := H
  have A4 := Ak A40
  clear A40
  obtain rfl := Option.some.inj H
  obtain ⟨Ao5, co5, eo5⟩ := Kd.R_slice HO0.out
  subst eo5
  go_enter Try.func75, Try.ntmps75
  go_wp2_with (first | ((with_reducible refine gate_callee (f := 74) rfl ?_); refine goesL_ (some 13) rfl rfl Try.func74 (by kernel_rfl) rfl #[.slice Ao5 l0.length co5, .int .u64 (IntKind.u64.wrap ((IntKind.u64.wrap (2 * (IntKind.u64.wrap (wrap64 (-a1))))) - 1))] rfl (by (try simp only [lm]); rfl) ?_; (with_reducible refine (e_count.calls k (fun k_ => some k_ = (.slice Ao5 l0.length co5 : Value).ownBlock) (.slice Ao5 l0.length co5) l0 (IntKind.u64.wrap ((IntKind.u64.wrap (2 * (IntKind.u64.wrap (wrap64 (-a1))))) - 1)) t109 w0 _ ?side1 ?side2 A4.out).mono ?_); (case side1 => exact HB.out); (case side2 => exact Kd.R_tight rfl HO0.out); rintro e w6 ⟨v110, rfl, ho0, hb, hkp⟩; refine ⟨_, rfl, ?_⟩; have n0_ := Ak (Kd.R_mono (ok' := fun k_ => (P0_ k_ ∨ w.heap.size ≤ k_)) ho0 (fun k_ hk_ => Or.elim hk_ (fun hs_ => (HO0.out.1 k_ (hs_).symm)) (fun hn_ => (.inr (Nat.le_trans (by exact HK.out.1) hn_))))); have n1_ := Ak (Kept.then_ (S := (fun k_ => P0_ k_)) (by exact HK.out) hkp (fun k_ hs_ => (fun e_ => (HO0.out.1 k_ e_.symm)) hs_)); have n2_ := Ak (hb); clear HK HB HO0; have HO111 := n0_; have HK := n1_; have HB := n2_; clear n0_ n1_ n2_; (try clear hb); (try clear hkp); (try clear ho0)))
  go_ret
  exact ⟨_, by rfl, by exact HO111.out, by exact HB.out, by exact HK.out⟩
 ·rw [if_neg c3] at H
  have c3b0 : decide (a1 < 0) = false := decide_eq_false c3
  clear c3
  replace H := Option.bind_eq_some_iff.mp H
  obtain ⟨t112, A70, H⟩ := H
  replace H : (some t112) = some r := H
  have A7 := Ak A70
  clear A70
  obtain rfl := Option.some.inj H
  obtain ⟨Ao8, co8, eo8⟩ := Kd.R_slice HO0.out
  subst eo8
  go_enter Try.func75, Try.ntmps75
  go_wp2_with (first | ((with_reducible refine gate_callee (f := 74) rfl ?_); refine goesL_ (some 18) rfl rfl Try.func74 (by kernel_rfl) rfl #[.slice Ao8 l0.length co8, .int .u64 (IntKind.u64.wrap (2 * (IntKind.u64.wrap (a1))))] rfl (by (try simp only [lm]); rfl) ?_; (with_reducible refine (e_count.calls k (fun k_ => some k_ = (.slice Ao8 l0.length co8 : Value).ownBlock) (.slice Ao8 l0.length co8) l0 (IntKind.u64.wrap (2 * (IntKind.u64.wrap (a1)))) t112 w0 _ ?side1 ?side2 A7.out).mono ?_); (case side1 => exact HB.out); (case side2 => exact Kd.R_tight rfl HO0.out); rintro e w9 ⟨v113, rfl, ho0, hb, hkp⟩; refine ⟨_, rfl, ?_⟩; have n0_ := Ak (Kd.R_mono (ok' := fun k_ => (P0_ k_ ∨ w.heap.size ≤ k_)) ho0 (fun k_ hk_ => Or.elim hk_ (fun hs_ => (HO0.out.1 k_ (hs_).symm)) (fun hn_ => (.inr (Nat.le_trans (by exact HK.out.1) hn_))))); have n1_ := Ak (Kept.then_ (S := (fun k_ => P0_ k_)) (by exact HK.out) hkp (fun k_ hs_ => (fun e_ => (HO0.out.1 k_ e_.symm)) hs_)); have n2_ := Ak (hb); clear HK HB HO0; have HO114 := n0_; have HK := n1_; have HB := n2_; clear n0_ n1_ n2_; (try clear hb); (try clear hkp); (try clear ho0)))
  go_ret
  exact ⟨_, by rfl, by exact HO114.out, by exact HB.out, by exact HK.out⟩
-- (written by hand)
def s_Clone.f (l0 : List Int) : Option (List Int) := if l0.length * 8 ≤ 140737488355328 then some l0 else none
theorem s_Clone.calls (A0 : Option Addr) (c0 : Nat) (l0 : List Int) (r : List Int) (w : World) (hr0 : Kd.C (Kd.int .i64) w A0 l0.length l0) (hc0 : l0.length ≤ c0) (h : s_Clone.f l0 = some r) :
 Calls Try.prog 106 #[.slice A0 l0.length c0] w fun e w' => ∃ v0_ : Value, e = .returned (v0_) ∧ Kd.R (Kd.int .i64) 3 w' w.heap.size (fun _ => True) v0_ r ∧ Below w.heap.size w w' := by
 unfold s_Clone.f at h
 split at h
 case isFalse => cases h
 rename_i hsz
 obtain rfl := Option.some.inj h
 cases l0 with
 | nil =>
  cases A0 with
  | none =>
   refine (Try.slices_Clone_int_nil 0 c0 w).mono ?_
   rintro e w' ⟨rfl, rfl⟩
   exact ⟨_, rfl, Kd.R_nil _ _ _ _ _, Below.refl _ _⟩
  | some a =>
   refine (Try.slices_Clone_int_zero a c0 w).mono ?_
   rintro e w' ⟨v, rfl, ho, _, hb⟩
   exact ⟨_, rfl, Kd.R_of_own (by simpa [encs] using ho) (fun _ _ => trivial), hb⟩
 | cons x l =>
  obtain ⟨b, off, rfl, hc⟩ := C_addr hr0 (by simp)
  refine (Try.slices_Clone_int b off (x :: l).length c0 (x :: l) w (Nat.le_refl _) hsz hc).mono ?_
  rintro e w' ⟨v, rfl, ho, _, hb⟩
  exact ⟨_, rfl, Kd.R_of_own (by simpa [encs] using ho) (fun _ _ => trivial), hb⟩
-- (written by hand)
def s_Sort.f (l0 : List Int) : Option (List Int) := if l0.length < 4611686018427387904 then some (l0.mergeSort fun x y => decide (x ≤ y)) else none
theorem s_Sort.calls (P0_ : Nat → Prop) (u9000_ : Value) (l0 : List Int) (r : List Int) (w0 w : World) (hB : Below w0.heap.size w0 w) (ho0 : Kd.R (Kd.int .i64) 3 w w0.heap.size P0_ u9000_ l0) (h : s_Sort.f l0 = some r) :
 Calls Try.prog 107 #[u9000_] w fun e w' => e = .returned (.tuple #[]) ∧ Kd.R (Kd.int .i64) 3 w' w0.heap.size (fun k_ => (P0_ k_ ∨ w.heap.size ≤ k_)) u9000_ r ∧ Below w0.heap.size w0 w' ∧ Kept w w' (fun k_ => P0_ k_) := by
 unfold s_Sort.f at h
 split at h
 case isFalse => cases h
 rename_i hsz
 obtain rfl := Option.some.inj h
 have ho := Kd.own_of_R ho0
 rcases ho.2 with ⟨rfl, hn⟩ | ⟨g, cap, cur, rfl, hg, hb, h1, h2, h3, h4⟩
 ·obtain rfl : l0 = [] := List.eq_nil_of_length_eq_zero hn
  refine (Try.slices_Sort_int_none none 0 w).mono ?_
  rintro e w' ⟨rfl, rfl⟩
  exact ⟨rfl, by simpa using Kd.R_nil _ _ _ _ _, hB, Kept.refl _ _⟩
 ·refine (Try.slices_Sort_int g 0 cap l0 w (holds_of_blockI hb (by simpa [encs] using h4)) (blk_lt hb) hsz).mono ?_
  rintro e w' ⟨rfl, n, os, rfl⟩
  have hgr := grownBy_sortedI (w := w) (g := g) (n := n) (os := os) (l0.mergeSort fun x y => decide (x ≤ y)).toArray
  have hl : (l0.mergeSort fun x y => decide (x ≤ y)).length = l0.length := by simp
  refine ⟨rfl, Kd.R_of_own ?_ (fun k hk => .inl (ho0.1 k hk)), hB.grown hgr hB.size (fun k hk => by cases hk; exact hg), Kept.of_grown hgr (Kept.refl _ _) (fun k hk => .inl (by cases hk; exact ho0.1 g rfl))⟩
  have := ownsRow_sortedI (n := n) (os := os) hl hg hb h1 h2 h3
  rw [hl]
  exact this
-- (written by hand)
def s_Compact.f (l0 : List Int) : Option (List Int) := some (Lib.compact l0)
theorem s_Compact.calls (P0_ : Nat → Prop) (u9000_ : Value) (l0 : List Int) (r : List Int) (w0 w : World) (hB : Below w0.heap.size w0 w) (ho0 : Kd.R (Kd.int .i64) 3 w w0.heap.size P0_ u9000_ l0) (h : s_Compact.f l0 = some r) :
 Calls Try.prog 108 #[u9000_] w fun e w' => ∃ v0_ : Value, e = .returned (v0_) ∧ Kd.R (Kd.int .i64) 3 w' w0.heap.size (fun k_ => (P0_ k_ ∨ w.heap.size ≤ k_)) v0_ r ∧ Below w0.heap.size w0 w' ∧ Kept w w' (fun k_ => P0_ k_) := by
 obtain rfl := Option.some.inj h
 have ho := Kd.own_of_R ho0
 by_cases hn0 : l0 = []
 ·subst hn0
  obtain ⟨A, c, rfl, _⟩ : ∃ A c, u9000_ = .slice A 0 c ∧ True := by
   rcases ho.2 with ⟨rfl, hn⟩ | ⟨g, cap, cur, rfl, _⟩
   ·exact ⟨_, _, rfl, trivial⟩
   ·exact ⟨_, _, rfl, trivial⟩
  refine (Try.slices_Compact_int_empty A c w).mono ?_
  rintro e w' ⟨rfl, rfl⟩
  exact ⟨_, rfl, by rw [show Lib.compact ([] : List Int) = [] from rfl]; exact Kd.R_mono ho0 (fun k hk => .inl hk), hB, Kept.refl _ _⟩
 rcases ho.2 with ⟨rfl, hn⟩ | ⟨g, cap, cur, rfl, hg, hb, h1, h2, h3, h4⟩
 ·exact absurd (List.eq_nil_of_length_eq_zero hn) hn0
 ·refine (Try.slices_Compact_int g 0 cap l0 w (holds_of_blockI hb (by simpa [encs] using h4)) (by unfold maxLen at h2; omega) h1).mono ?_
  rintro e w' ⟨rfl, n, rfl⟩
  have hle : (Lib.compact l0).length ≤ l0.length := compact_length_le l0
  have hl : (Lib.compact l0 ++ List.replicate (l0.length - (Lib.compact l0).length) 0).length = l0.length := by simp; omega
  have hgr := grownBy_sortedI (w := w) (g := g) (n := n) (os := #[]) (Lib.compact l0 ++ List.replicate (l0.length - (Lib.compact l0).length) 0).toArray
  have hown := ownsRow_sortedI (n := n) (os := #[]) hl hg hb h1 h2 h3
  rw [Sort.grow_empty] at hgr hown
  refine ⟨_, rfl, Kd.R_of_own ?_ (fun k hk => .inl (ho0.1 k hk)), hB.grown hgr hB.size (fun k hk => by cases hk; exact hg), Kept.of_grown hgr (Kept.refl _ _) (fun k hk => .inl (by cases hk; exact ho0.1 g rfl))⟩
  obtain ⟨_, hr⟩ := hown
  rcases hr with ⟨hr, _⟩ | ⟨g', cap', cur', hv, hg', hb', q1, q2, q3, q4⟩
  ·cases hr
  ·cases hv
   refine ⟨by simp [encs], .inr ⟨g, cap, cur', rfl, hg, hb', by omega, q2, q3, ?_⟩⟩
   rw [Nat.mul_one] at q4 ⊢
   have := congrArg (List.take (Lib.compact l0).length) q4
   rw [List.take_take, Nat.min_eq_left hle, List.map_append, List.take_append_of_le_length (by simp)] at this
   rw [this]
   exact List.take_of_length_le (by simp)
def cmp_isNaN_int.f (a0 : Int) : Option (Bool) := some (a0 != a0)
set_option maxHeartbeats 8000000 in
set_option maxRecDepth 100000 in
theorem cmp_isNaN_int.calls (a0 : Int) (r : Bool) (w : World) (h : cmp_isNaN_int.f a0 = some r) :
 Calls Try.prog 90 #[.int .i64 a0] w fun e w' => e = .returned (.bool r) ∧ Drawn0 w w' := by
 have H : (some (a0 != a0)) = some r := h
 clear h
 obtain rfl := Option.some.inj H
 go_enter Try.func90, Try.ntmps90
 go_wp2
 go_ret
 exact ⟨by rfl, by repeat (exact Drawn0.refl _)⟩
def cmp_Less_int.f (a0 : Int) (a1 : Int) : Option (Bool) := (cmp_isNaN_int.f a0).bind fun t115 => (if t115 = true then ((cmp_isNaN_int.f a1).bind fun t116 => (if t116 = true then (some (decide (a0 < a1))) else (some true))) else (some (decide (a0 < a1))))
set_option maxHeartbeats 8000000 in
set_option maxRecDepth 100000 in
theorem cmp_Less_int.calls (a0 : Int) (a1 : Int) (r : Bool) (w : World) (h : cmp_Less_int.f a0 a1 = some r) :
 Calls Try.prog 66 #[.int .i64 a0, .int .i64 a1] w fun e w' => e = .returned (.bool r) ∧ Drawn0 w w' := by
 have H : ((cmp_isNaN_int.f a0).bind fun t115 => (if t115 = true then ((cmp_isNaN_int.f a1).bind fun t116 => (if t116 = true then (some (decide (a0 < a1))) else (some true))) else (some (decide (a0 < a1))))) = some r := h
 clear h
 replace H := Option.bind_eq_some_iff.mp H
 obtain ⟨t115, A30, H⟩ := H
 replace H : (if t115 = true then ((cmp_isNaN_int.f a1).bind fun t116 => (if t116 = true then (some (decide (a0 < a1))) else (some true))) else (some (decide (a0 < a1)))) = some r := H
 have A3 := Ak A30
 clear A30
 by_cases c4 : t115 = true
 ·subst c4
  replace H : ((cmp_isNaN_int.f a1).bind fun t116 => (if t116 = true then (some (decide (a0 < a1))) else (some true))) = some r := by rw [if_pos rfl] at H; exact H
  replace H := Option.bind_eq_some_iff.mp H
  obtain ⟨t116, A50, H⟩ := H
  replace H : (if t116 = true then (some (decide (a0 < a1))) else (some true)) = some r := H
  have A5 := Ak A50
  clear A50
  by_cases c6 : t116 = true
  ·subst c6
   replace H : (some (decide (a0 < a1))) = some r := by rw [if_pos rfl] at H; exact H
   obtain rfl := Option.some.inj H
   go_enter Try.func66, Try.ntmps66
   go_wp2_with (first | ((with_reducible refine gate_callee (f := 90) rfl ?_); refine goesL_ (some 6) rfl rfl Try.func90 (by kernel_rfl) rfl #[.int .i64 a0] rfl (by (try simp only [lm]); rfl) ?_; (with_reducible refine (cmp_isNaN_int.calls a0 true _ A3.out).mono ?_); rintro e w' ⟨rfl, ⟨nd, rfl⟩⟩; refine ⟨_, rfl, ?_⟩) | (go_at_call 90; (with_reducible refine (cmp_isNaN_int.calls a1 true _ A5.out).mono ?_); rintro e w' ⟨rfl, ⟨nd, rfl⟩⟩))
   go_ret
   exact ⟨by rfl, by repeat (first | exact Drawn0.refl _ | apply Drawn0.step)⟩
  ·replace c6 := Bool.eq_false_iff.mpr c6
   subst c6
   replace H : (some true) = some r := by rw [if_neg (show ¬ (false = true) by decide)] at H; exact H
   obtain rfl := Option.some.inj H
   go_enter Try.func66, Try.ntmps66
   go_wp2_with (first | ((with_reducible refine gate_callee (f := 90) rfl ?_); refine goesL_ (some 6) rfl rfl Try.func90 (by kernel_rfl) rfl #[.int .i64 a0] rfl (by (try simp only [lm]); rfl) ?_; (with_reducible refine (cmp_isNaN_int.calls a0 true _ A3.out).mono ?_); rintro e w' ⟨rfl, ⟨nd, rfl⟩⟩; refine ⟨_, rfl, ?_⟩) | (go_at_call 90; (with_reducible refine (cmp_isNaN_int.calls a1 false _ A5.out).mono ?_); rintro e w' ⟨rfl, ⟨nd, rfl⟩⟩))
   go_ret
   exact ⟨by rfl, by repeat (first | exact Drawn0.refl _ | apply Drawn0.step)⟩
 ·replace c4 := Bool.eq_false_iff.mpr c4
  subst c4
  replace H : (some (decide (a0 < a1))) = some r := by rw [if_neg (show ¬ (false = true) by decide)] at H; exact H
  obtain rfl := Option.some.inj H
  go_enter Try.func66, Try.ntmps66
  go_wp2_with (first | ((with_reducible refine gate_callee (f := 90) rfl ?_); refine goesL_ (some 6) rfl rfl Try.func90 (by kernel_rfl) rfl #[.int .i64 a0] rfl (by (try simp only [lm]); rfl) ?_; (with_reducible refine (cmp_isNaN_int.calls a0 false _ A3.out).mono ?_); rintro e w' ⟨rfl, ⟨nd, rfl⟩⟩; refine ⟨_, rfl, ?_⟩))
  go_ret
  exact ⟨by rfl, by repeat (first | exact Drawn0.refl _ | apply Drawn0.step)⟩
def s_isNaN.f (a0 : Int) : Option (Bool) := some (a0 != a0)
set_option maxHeartbeats 8000000 in
set_option maxRecDepth 100000 in
theorem s_isNaN.calls (a0 : Int) (r : Bool) (w : World) (h : s_isNaN.f a0 = some r) :
 Calls Try.prog 124 #[.int .i64 a0] w fun e w' => e = .returned (.bool r) ∧ Drawn0 w w' := by
 have H : (some (a0 != a0)) = some r := h
 clear h
 obtain rfl := Option.some.inj H
 go_enter Try.func124, Try.ntmps124
 go_wp2
 go_ret
 exact ⟨by rfl, by repeat (exact Drawn0.refl _)⟩
def s_BinarySearch.l0 : Nat → List Int → Int → Int → Int → Int → Option (Int × Bool)
 | 0, _, _, _, _, _ => none
 | k + 1, x0, x1, x6, x7, x8 => if x7 < x8 then (if 0 ≤ (wrap64 ((IntKind.u64.wrap (wrap64 (x7 + x8))) / 2)) then (if (wrap64 ((IntKind.u64.wrap (wrap64 (x7 + x8))) / 2)) < (x0.length : Int) then ((cmp_Less_int.f (rd x0 (wrap64 ((IntKind.u64.wrap (wrap64 (x7 + x8))) / 2))) x1).bind fun t118 => (if t118 = true then (s_BinarySearch.l0 k x0 x1 x6 (wrap64 ((wrap64 ((IntKind.u64.wrap (wrap64 (x7 + x8))) / 2)) + 1)) x8) else (s_BinarySearch.l0 k x0 x1 x6 x7 (wrap64 ((IntKind.u64.wrap (wrap64 (x7 + x8))) / 2))))) else (none)) else (none)) else (if x7 < x6 then (if 0 ≤ x7 then (if x7 < (x0.length : Int) then (if (rd x0 x7) = x1 then (some (x7, true)) else ((s_isNaN.f (rd x0 x7)).bind fun t121 => (if t121 = true then ((s_isNaN.f x1).bind fun t122 => (some (x7, t122))) else (some (x7, false))))) else (none)) else (none)) else (some (x7, false)))
def s_BinarySearch.f (k : Nat) (l0 : List Int) (a1 : Int) : Option (Int × Bool) := s_BinarySearch.l0 k l0 a1 (l0.length : Int) 0 (l0.length : Int)
theorem s_BinarySearch.mono_l : ∀ k, (∀ y0 y1 y2 y3 y4, LeO (s_BinarySearch.l0 k y0 y1 y2 y3 y4) (s_BinarySearch.l0 (k + 1) y0 y1 y2 y3 y4))
 | 0 => fun _ _ _ _ _ r h => by simp [s_BinarySearch.l0] at h
 | k + 1 => by
  have ih0 := s_BinarySearch.mono_l k
  ·intro y0 y1 y2 y3 y4
   unfold s_BinarySearch.l0
   repeat' first
   | (with_reducible exact ih0 _ _ _ _ _)
   | (with_reducible exact LeO.refl _)
   | (with_reducible refine LeO.ite ?_ ?_)
   | (with_reducible refine LeO.bind ?_ (fun _ => ?_))
theorem s_BinarySearch.mono : ∀ a0 a1 k, LeO (s_BinarySearch.f k a0 a1) (s_BinarySearch.f (k + 1) a0 a1) := by
 intro a0 a1 k
 have ih0 := s_BinarySearch.mono_l k
 unfold s_BinarySearch.f
 repeat' first
  | (with_reducible exact ih0 _ _ _ _ _)
set_option maxHeartbeats 8000000 in
set_option maxRecDepth 100000 in
theorem s_BinarySearch.calls (k : Nat) (A0 : Option Addr) (c0 : Nat) (l0 : List Int) (a1 : Int) (r1 : Int) (r2 : Bool) (w : World) (hr0 : Kd.C (Kd.int .i64) w A0 l0.length l0) (hc0 : l0.length ≤ c0) (h : s_BinarySearch.f k l0 a1 = some (r1, r2)) :
 Calls Try.prog 109 #[.slice A0 l0.length c0, .int .i64 a1] w fun e w' => e = .returned (.tuple #[.int .i64 r1, .bool r2]) ∧ Drawn0 w w' := by
 have HR0 := Ak hr0
 have HC0 := Ak hc0
 clear hr0 hc0
 have H : (s_BinarySearch.l0 k l0 a1 (l0.length : Int) 0 (l0.length : Int)) = some (r1, r2) := h
 clear h
 have H' := Ak H
 clear H
 go_enter Try.func109, Try.ntmps109
 go_wp2
 go_loopg [7, 8] k (fun kq v7 v8 w' => ∃ (x7_1 : Int) (x8_1 : Int), v7 = .int .i64 x7_1 ∧ v8 = .int .i64 x8_1 ∧ Aside0 (s_BinarySearch.l0 kq l0 a1 (l0.length : Int) x7_1 x8_1 = some (r1, r2)) ∧ Aside0 (kq ≤ k) ∧ Drawn0 w w')
 case atStart => exact ⟨(0), ((l0.length : Int)), (by rfl), (by rfl), H', ⟨Nat.le_refl _⟩, by repeat (exact Drawn0.refl _)⟩
 case round =>
  clear H'
  obtain ⟨x7_1, x8_1, rfl, rfl, HA, HK1, ⟨m1, rfl⟩⟩ := hrel
  cases gk with
  | zero => exact absurd HA.out (by simp [s_BinarySearch.l0])
  | succ k1 =>
   have H := HA.out
   clear HA
   simp only [s_BinarySearch.l0] at H
   by_cases c3 : x7_1 < x8_1
   ·rw [if_pos c3] at H
    have c3b0 : decide (x7_1 < x8_1) = true := decide_eq_true c3
    clear c3
    obtain ⟨ji4, hji4⟩ : ∃ j_ : Int, (wrap64 ((IntKind.u64.wrap (wrap64 (x7_1 + x8_1))) / 2)) = j_ := ⟨_, rfl⟩
    replace H : (if 0 ≤ (ji4) then (if (ji4) < (l0.length : Int) then ((cmp_Less_int.f (rd l0 (ji4)) a1).bind fun t118 => (if t118 = true then (s_BinarySearch.l0 k1 l0 a1 (l0.length : Int) (wrap64 ((ji4) + 1)) x8_1) else (s_BinarySearch.l0 k1 l0 a1 (l0.length : Int) x7_1 ji4))) else (none)) else (none)) = some (r1, r2) := by (rw [hji4] at H; exact H)
    have hji4w : (IntKind.i64.wrap ((IntKind.u64.wrap (wrap64 (x7_1 + x8_1))) / 2)) = ji4 := (i64_w _).trans hji4
    by_cases c5 : 0 ≤ (ji4)
    ·rw [if_pos c5] at H
     have c5b0 : decide (0 ≤ (ji4)) = true := decide_eq_true c5
     clear c5
     by_cases c6 : (ji4) < (l0.length : Int)
     ·rw [if_pos c6] at H
      have c6b0 : decide ((ji4) < (l0.length : Int)) = true := decide_eq_true c6
      clear c6
      replace H := Option.bind_eq_some_iff.mp H
      obtain ⟨t118, A70, H⟩ := H
      replace H : (if t118 = true then (s_BinarySearch.l0 k1 l0 a1 (l0.length : Int) (wrap64 ((ji4) + 1)) x8_1) else (s_BinarySearch.l0 k1 l0 a1 (l0.length : Int) x7_1 ji4)) = some (r1, r2) := H
      have A7 := Ak A70
      clear A70
      by_cases c8 : t118 = true
      ·subst c8
       replace H : (s_BinarySearch.l0 k1 l0 a1 (l0.length : Int) (wrap64 ((ji4) + 1)) x8_1) = some (r1, r2) := by rw [if_pos rfl] at H; exact H
       have H' := Ak H
       clear H
       have p117 : 0 ≤ ((ji4) : Int) := of_decide_eq_true (by (with_reducible assumption))
       have q117 : (ji4) < (l0.length : Int) := of_decide_eq_true (by (with_reducible assumption))
       obtain ⟨ad117, e117, hx117_0⟩ := Kd.at_int HR0.out (ji4) p117 q117
       cases e117
       replace p117 := eq_true p117
       replace q117 := eq_true q117
       go_wp2_with (first | ((with_reducible refine gate_callee (f := 66) rfl ?_); refine goesL_ (some 27) rfl rfl Try.func66 (by kernel_rfl) rfl #[.int .i64 (rd l0 (ji4)), .int .i64 a1] rfl (by (try simp only [lm]); rfl) ?_; (with_reducible refine (cmp_Less_int.calls (rd l0 (ji4)) a1 true _ A7.out).mono ?_); rintro e w' ⟨rfl, ⟨nd, rfl⟩⟩; refine ⟨_, rfl, ?_⟩))
       go_roundg k1
       case measure => have := HK1.out; omega
       case rel => exact ⟨(wrap64 ((ji4) + 1)), (x8_1), (by rfl), (by rfl), H', ⟨by have := HK1.out; omega⟩, by repeat (first | exact Drawn0.refl _ | apply Drawn0.step)⟩
      ·replace c8 := Bool.eq_false_iff.mpr c8
       subst c8
       replace H : (s_BinarySearch.l0 k1 l0 a1 (l0.length : Int) x7_1 ji4) = some (r1, r2) := by rw [if_neg (show ¬ (false = true) by decide)] at H; exact H
       have H' := Ak H
       clear H
       have p117 : 0 ≤ ((ji4) : Int) := of_decide_eq_true (by (with_reducible assumption))
       have q117 : (ji4) < (l0.length : Int) := of_decide_eq_true (by (with_reducible assumption))
       obtain ⟨ad117, e117, hx117_0⟩ := Kd.at_int HR0.out (ji4) p117 q117
       cases e117
       replace p117 := eq_true p117
       replace q117 := eq_true q117
       go_wp2_with (first | ((with_reducible refine gate_callee (f := 66) rfl ?_); refine goesL_ (some 27) rfl rfl Try.func66 (by kernel_rfl) rfl #[.int .i64 (rd l0 (ji4)), .int .i64 a1] rfl (by (try simp only [lm]); rfl) ?_; (with_reducible refine (cmp_Less_int.calls (rd l0 (ji4)) a1 false _ A7.out).mono ?_); rintro e w' ⟨rfl, ⟨nd, rfl⟩⟩; refine ⟨_, rfl, ?_⟩))
       go_roundg k1
       case measure => have := HK1.out; omega
       case rel => exact ⟨(x7_1), (ji4), (by rfl), (by rfl), H', ⟨by have := HK1.out; omega⟩, by repeat (first | exact Drawn0.refl _ | apply Drawn0.step)⟩
     ·rw [if_neg c6] at H
      exact absurd H (by simp)
    ·rw [if_neg c5] at H
     exact absurd H (by simp)
   ·rw [if_neg c3] at H
    have c3b0 : decide (x7_1 < x8_1) = false := decide_eq_false c3
    clear c3
    by_cases c9 : x7_1 < (l0.length : Int)
    ·rw [if_pos c9] at H
     have c9b0 : decide (x7_1 < (l0.length : Int)) = true := decide_eq_true c9
     clear c9
     by_cases c10 : 0 ≤ x7_1
     ·rw [if_pos c10] at H
      have c10b0 : decide (0 ≤ x7_1) = true := decide_eq_true c10
      clear c10
      by_cases c11 : x7_1 < (l0.length : Int)
      ·rw [if_pos c11] at H
       have c11b0 : decide (x7_1 < (l0.length : Int)) = true := decide_eq_true c11
       clear c11
       by_cases c12 : (rd l0 x7_1) = a1
       ·rw [if_pos c12] at H
        have c12b0 : ((rd l0 x7_1) == a1) = true := beq_iff_eq.mpr c12
        have c12b1 : ((rd l0 x7_1) != a1) = false := bne_eq_false_iff_eq.mpr c12
        clear c12
        simp only [Option.some.injEq, Prod.mk.injEq] at H
        obtain ⟨rfl, rfl⟩ := H
        have p119 : 0 ≤ (x7_1 : Int) := of_decide_eq_true (by (with_reducible assumption))
        have q119 : x7_1 < (l0.length : Int) := of_decide_eq_true (by (with_reducible assumption))
        obtain ⟨ad119, e119, hx119_0⟩ := Kd.at_int HR0.out x7_1 p119 q119
        cases e119
        replace p119 := eq_true p119
        replace q119 := eq_true q119
        go_wp2
        go_ret2
        exact ⟨by rfl, by repeat (first | exact Drawn0.refl _ | apply Drawn0.step)⟩
       ·rw [if_neg c12] at H
        have c12b0 : ((rd l0 x7_1) == a1) = false := beq_eq_false_iff_ne.mpr c12
        have c12b1 : ((rd l0 x7_1) != a1) = true := bne_iff_ne.mpr c12
        replace H := Option.bind_eq_some_iff.mp H
        obtain ⟨t121, A130, H⟩ := H
        replace H : (if t121 = true then ((s_isNaN.f a1).bind fun t122 => (some (x7_1, t122))) else (some (x7_1, false))) = some (r1, r2) := H
        have A13 := Ak A130
        clear A130
        by_cases c14 : t121 = true
        ·subst c14
         replace H : ((s_isNaN.f a1).bind fun t122 => (some (x7_1, t122))) = some (r1, r2) := by rw [if_pos rfl] at H; exact H
         replace H := Option.bind_eq_some_iff.mp H
         obtain ⟨t122, A150, H⟩ := H
         replace H : (some (x7_1, t122)) = some (r1, r2) := H
         have A15 := Ak A150
         clear A150
         simp only [Option.some.injEq, Prod.mk.injEq] at H
         obtain ⟨rfl, rfl⟩ := H
         have p119 : 0 ≤ (x7_1 : Int) := of_decide_eq_true (by (with_reducible assumption))
         have q119 : x7_1 < (l0.length : Int) := of_decide_eq_true (by (with_reducible assumption))
         obtain ⟨ad119, e119, hx119_0⟩ := Kd.at_int HR0.out x7_1 p119 q119
         cases e119
         replace p119 := eq_true p119
         replace q119 := eq_true q119
         have p120 : 0 ≤ (x7_1 : Int) := of_decide_eq_true (by (with_reducible assumption))
         have q120 : x7_1 < (l0.length : Int) := of_decide_eq_true (by (with_reducible assumption))
         obtain ⟨ad120, e120, hx120_0⟩ := Kd.at_int HR0.out x7_1 p120 q120
         obtain rfl : ad119 = ad120 := (by injection e120)
         replace p120 := eq_true p120
         replace q120 := eq_true q120
         go_wp2_with (first | (go_at_call 124; (with_reducible refine (s_isNaN.calls (rd l0 x7_1) true _ A13.out).mono ?_); rintro e w' ⟨rfl, ⟨nd, rfl⟩⟩) | (go_at_call 124; (with_reducible refine (s_isNaN.calls a1 t122 _ A15.out).mono ?_); rintro e w' ⟨rfl, ⟨nd, rfl⟩⟩))
         go_ret2
         exact ⟨by rfl, by repeat (first | exact Drawn0.refl _ | apply Drawn0.step)⟩
        ·replace c14 := Bool.eq_false_iff.mpr c14
         subst c14
         replace H : (some (x7_1, false)) = some (r1, r2) := by rw [if_neg (show ¬ (false = true) by decide)] at H; exact H
         simp only [Option.some.injEq, Prod.mk.injEq] at H
         obtain ⟨rfl, rfl⟩ := H
         have p119 : 0 ≤ (x7_1 : Int) := of_decide_eq_true (by (with_reducible assumption))
         have q119 : x7_1 < (l0.length : Int) := of_decide_eq_true (by (with_reducible assumption))
         obtain ⟨ad119, e119, hx119_0⟩ := Kd.at_int HR0.out x7_1 p119 q119
         cases e119
         replace p119 := eq_true p119
         replace q119 := eq_true q119
         have p120 : 0 ≤ (x7_1 : Int) := of_decide_eq_true (by (with_reducible assumption))
         have q120 : x7_1 < (l0.length : Int) := of_decide_eq_true (by (with_reducible assumption))
         obtain ⟨ad120, e120, hx120_0⟩ := Kd.at_int HR0.out x7_1 p120 q120
         obtain rfl : ad119 = ad120 := (by injection e120)
         replace p120 := eq_true p120
         replace q120 := eq_true q120
         go_wp2_with (first | (go_at_call 124; (with_reducible refine (s_isNaN.calls (rd l0 x7_1) false _ A13.out).mono ?_); rintro e w' ⟨rfl, ⟨nd, rfl⟩⟩))
         go_ret2
         exact ⟨by rfl, by repeat (first | exact Drawn0.refl _ | apply Drawn0.step)⟩
      ·rw [if_neg c11] at H
       exact absurd H (by simp)
     ·rw [if_neg c10] at H
      exact absurd H (by simp)
    ·rw [if_neg c9] at H
     have c9b0 : decide (x7_1 < (l0.length : Int)) = false := decide_eq_false c9
     clear c9
     simp only [Option.some.injEq, Prod.mk.injEq] at H
     obtain ⟨rfl, rfl⟩ := H
     go_wp2
     go_ret2
     exact ⟨by rfl, by repeat (first | exact Drawn0.refl _ | apply Drawn0.step)⟩
def e_distinct.l0 : Nat → List Int → List Int → List Int → Int → Int → Option (List Int × List Int)
 | 0, _, _, _, _, _ => none
 | k + 1, x2, x3, x14, x15, x16 => if x16 < x15 then (if 0 ≤ x16 then (if x16 < (x14.length : Int) then ((s_BinarySearch.f k x2 (rd x14 x16)).bind fun bt131 => (if x3.length < 17592186044416 then (e_distinct.l0 k x2 (x3 ++ [bt131.1]) x14 x15 (wrap64 (x16 + 1))) else (none))) else (none)) else (none)) else (some (x2, x3))
def e_distinct.f (k : Nat) (l0 : List Int) : Option (List Int × List Int) := (s_Clone.f l0).bind fun t123 => ((s_Sort.f t123).bind fun t126 => ((s_Compact.f t126).bind fun t127 => (e_distinct.l0 k t127 ([] : List Int) l0 (l0.length : Int) 0)))
theorem e_distinct.mono_l : ∀ k, (∀ y0 y1 y2 y3 y4, LeO (e_distinct.l0 k y0 y1 y2 y3 y4) (e_distinct.l0 (k + 1) y0 y1 y2 y3 y4))
 | 0 => fun _ _ _ _ _ r h => by simp [e_distinct.l0] at h
 | k + 1 => by
  have ih0 := e_distinct.mono_l k
  ·intro y0 y1 y2 y3 y4
   unfold e_distinct.l0
   repeat' first
   | (with_reducible exact ih0 _ _ _ _ _)
   | (with_reducible exact s_BinarySearch.mono _ _ _)
   | (with_reducible exact LeO.refl _)
   | (with_reducible refine LeO.ite ?_ ?_)
   | (with_reducible refine LeO.bind ?_ (fun _ => ?_))
theorem e_distinct.mono : ∀ a0 k, LeO (e_distinct.f k a0) (e_distinct.f (k + 1) a0) := by
 intro a0 k
 have ih0 := e_distinct.mono_l k
 unfold e_distinct.f
 repeat' first
  | (with_reducible exact ih0 _ _ _ _ _)
  | (with_reducible exact LeO.refl _)
  | (with_reducible refine LeO.bind ?_ (fun _ => ?_))
set_option maxHeartbeats 8000000 in
set_option maxRecDepth 100000 in
theorem e_distinct.calls (k : Nat) (A0 : Option Addr) (c0 : Nat) (l0 : List Int) (r1 : List Int) (r2 : List Int) (w : World) (hr0 : Kd.C (Kd.int .i64) w A0 l0.length l0) (hc0 : l0.length ≤ c0) (h : e_distinct.f k l0 = some (r1, r2)) :
 Calls Try.prog 76 #[.slice A0 l0.length c0] w fun e w' => ∃ v0_ v1_ : Value, e = .returned (.tuple #[v0_, v1_]) ∧ Kd.R (Kd.int .i64) 3 w' w.heap.size (fun k_ => some k_ ≠ (v1_ : Value).ownBlock) v0_ r1 ∧ Kd.R (Kd.int .i64) 3 w' w.heap.size (fun k_ => some k_ ≠ (v0_ : Value).ownBlock) v1_ r2 ∧ Below w.heap.size w w' := by
 have HR0 := Ak hr0
 have HC0 := Ak hc0
 clear hr0 hc0
 have HB := Ak (Below.refl w.heap.size w)
 have H : ((s_Clone.f l0).bind fun t123 => ((s_Sort.f t123).bind fun t126 => ((s_Compact.f t126).bind fun t127 => (e_distinct.l0 k t127 ([] : List Int) l0 (l0.length : Int) 0)))) = some (r1, r2) := h
 clear h
 replace H := Option.bind_eq_some_iff.mp H
 obtain ⟨t123, A20, H⟩ := H
 replace H : ((s_Sort.f t123).bind fun t126 => ((s_Compact.f t126).bind fun t127 => (e_distinct.l0 k t127 ([] : List Int) l0 (l0.length : Int) 0))) = some (r1, r2) := H
 have A2 := Ak A20
 clear A20
 replace H := Option.bind_eq_some_iff.mp H
 obtain ⟨t126, A30, H⟩ := H
 replace H : ((s_Compact.f t126).bind fun t127 => (e_distinct.l0 k t127 ([] : List Int) l0 (l0.length : Int) 0)) = some (r1, r2) := H
 have A3 := Ak A30
 clear A30
 replace H := Option.bind_eq_some_iff.mp H
 obtain ⟨t127, A40, H⟩ := H
 replace H : (e_distinct.l0 k t127 ([] : List Int) l0 (l0.length : Int) 0) = some (r1, r2) := H
 have A4 := Ak A40
 clear A40
 have H' := Ak H
 clear H
 go_enter Try.func76, Try.ntmps76
 go_wp2_with (first | ((with_reducible refine gate_callee (f := 106) rfl ?_); refine goesL_ (some 9) rfl rfl Try.func106 (by kernel_rfl) rfl #[.slice A0 l0.length c0] rfl (by (try simp only [lm]); rfl) ?_; (with_reducible refine (s_Clone.calls _ _ l0 t123 _ ?side1 ?side2 A2.out).mono ?_); (case side1 => repeat (exact HR0.out)); (case side2 => exact HC0.out); rintro e w5 ⟨v124, rfl, ho0, hb⟩; refine ⟨_, rfl, ?_⟩; have n0_ := Ak (Kd.R_lower ho0 (below_size (by exact HB.out))); have n1_ := Ak (below_step (by exact HB.out) hb); clear HB; have HO125 := n0_; have HB := n1_; clear n0_ n1_; (try clear hb); (try clear ho0); obtain ⟨Ao6, co6, eo6⟩ := Kd.R_slice HO125.out; subst eo6) | ((with_reducible refine gate_callee (f := 107) rfl ?_); refine goesL_ (some 11) rfl rfl Try.func107 (by kernel_rfl) rfl #[.slice Ao6 t123.length co6] rfl (by (try simp only [lm]); rfl) ?_; (with_reducible refine (s_Sort.calls (fun k_ => some k_ = (.slice Ao6 t123.length co6 : Value).ownBlock) (.slice Ao6 t123.length co6) t123 t126 w _ ?side1 ?side2 A3.out).mono ?_); (case side1 => exact HB.out); (case side2 => exact Kd.R_tight rfl HO125.out); rintro e w7 ⟨rfl, hy0, hb, hkp⟩; refine ⟨_, rfl, ?_⟩; have n0_ := Ak (Kd.R_reok rfl hy0 (fun k_ e_ => HO125.out.1 k_ e_)); have n1_ := Ak (hb); clear HO125 HB; have HO125 := n0_; have HB := n1_; clear n0_ n1_; (try clear hb); (try clear hkp); (try clear hy0)) | ((with_reducible refine gate_callee (f := 108) rfl ?_); refine goesL_ (some 13) rfl rfl Try.func108 (by kernel_rfl) rfl #[.slice Ao6 t123.length co6] rfl (by (try simp only [lm]); rfl) ?_; (with_reducible refine (s_Compact.calls (fun k_ => some k_ = (.slice Ao6 t123.length co6 : Value).ownBlock) (.slice Ao6 t123.length co6) t126 t127 w _ ?side1 ?side2 A4.out).mono ?_); (case side1 => exact HB.out); (case side2 => exact Kd.R_tight rfl HO125.out); rintro e w8 ⟨v128, rfl, ho0, hb, hkp⟩; refine ⟨_, rfl, ?_⟩; have n0_ := Ak (Kd.R_mono (ok' := fun k_ => True) ho0 (fun k_ hk_ => trivial)); have n1_ := Ak (hb); clear HB HO125; have HO129 := n0_; have HB := n1_; clear n0_ n1_; (try clear hb); (try clear hkp); (try clear ho0)))
 go_loopg [3, 16] k (fun kq v3 v16 w' => ∃ (x3_1 : List Int) (x16_1 : Int), v16 = .int .i64 x16_1 ∧ Aside0 (e_distinct.l0 kq t127 x3_1 l0 (l0.length : Int) x16_1 = some (r1, r2)) ∧ Aside0 (kq ≤ k) ∧ Aside0 (Kd.R (Kd.int .i64) 3 w' w.heap.size (fun k_ => some k_ ≠ (v3 : Value).ownBlock) v128 t127) ∧ Aside0 (Kd.R (Kd.int .i64) 3 w' w.heap.size (fun k_ => some k_ ≠ (v128 : Value).ownBlock) v3 x3_1) ∧ Aside0 (Below w.heap.size w w'))
 case atStart => exact ⟨(([] : List Int)), (0), (by rfl), H', ⟨Nat.le_refl _⟩, ⟨by exact Kd.R_mono HO129.out (fun _ hk => (by simp [Value.ownBlock]))⟩, ⟨by exact Kd.R_nil _ _ _ _ _⟩, ⟨by exact HB.out⟩⟩
 case round =>
  clear H'
  obtain ⟨x3_1, x16_1, rfl, HA, HK1, HO_2, HO_3, HB⟩ := hrel
  cases gk with
  | zero => exact absurd HA.out (by simp [e_distinct.l0])
  | succ k1 =>
   have H := HA.out
   clear HA
   simp only [e_distinct.l0] at H
   by_cases c9 : x16_1 < (l0.length : Int)
   ·rw [if_pos c9] at H
    have c9b0 : decide (x16_1 < (l0.length : Int)) = true := decide_eq_true c9
    clear c9
    by_cases c10 : 0 ≤ x16_1
    ·rw [if_pos c10] at H
     have c10b0 : decide (0 ≤ x16_1) = true := decide_eq_true c10
     clear c10
     by_cases c11 : x16_1 < (l0.length : Int)
     ·rw [if_pos c11] at H
      have c11b0 : decide (x16_1 < (l0.length : Int)) = true := decide_eq_true c11
      clear c11
      replace H := Option.bind_eq_some_iff.mp H
      obtain ⟨⟨t131, t132⟩, A120, H⟩ := H
      replace H : (if x3_1.length < 17592186044416 then (e_distinct.l0 k1 t127 (x3_1 ++ [t131]) l0 (l0.length : Int) (wrap64 (x16_1 + 1))) else (none)) = some (r1, r2) := H
      have A12 := Ak A120
      clear A120
      by_cases c13 : x3_1.length < 17592186044416
      ·rw [if_pos c13] at H
       have LMc13 := Ak c13
       clear c13
       obtain ⟨y133, hy133⟩ : ∃ y_ : List Int, y_ = (x3_1 ++ [t131]) := ⟨_, rfl⟩
       replace H : (e_distinct.l0 k1 t127 y133 l0 (l0.length : Int) (wrap64 (x16_1 + 1))) = some (r1, r2) := by (rw [hy133]; with_reducible exact H)
       have Ny133 := Ak hy133
       clear hy133
       have H' := Ak H
       clear H
       have p130 : 0 ≤ (x16_1 : Int) := of_decide_eq_true (by (with_reducible assumption))
       have q130 : x16_1 < (l0.length : Int) := of_decide_eq_true (by (with_reducible assumption))
       obtain ⟨ad130, e130, hx130_0⟩ := Kd.at_int HR0.out x16_1 p130 q130
       cases e130
       replace hx130_0 := (HB.out.cell (World.block_lt_of_cell? w _ hx130_0)).trans hx130_0
       replace p130 := eq_true p130
       replace q130 := eq_true q130
       obtain ⟨Ao14, co14, eo14⟩ := Kd.R_slice HO_2.out
       subst eo14
       go_wp2_with (first | ((with_reducible refine gate_callee (f := 109) rfl ?_); refine goesL_ (some 23) rfl rfl Try.func109 (by kernel_rfl) rfl #[.slice Ao14 t127.length co14, .int .i64 (rd l0 x16_1)] rfl (by (try simp only [lm]); rfl) ?_; (with_reducible refine (s_BinarySearch.calls k1 _ _ t127 (rd l0 x16_1) t131 t132 _ ?side1 ?side2 A12.out).mono ?_); (case side1 => repeat (exact (Kd.R_reads' HO_2.out).2.2)); (case side2 => exact (Kd.R_reads' HO_2.out).2.1); rintro e w' ⟨rfl, ⟨nd, rfl⟩⟩; refine ⟨_, rfl, ?_⟩) | ((with_reducible refine gate_builtin (b := .append) (xs := #[.tmp 26, .tmp 28]) rfl ?_); at_builtin; refine Kd.R_append (Kd.int .i64) (w0 := w) w.heap.size rfl (.tmp 26) (.tmp 28) 22 3 (.int .i64 0) 8 rfl Try.underlying22 info3 rfl (by decide) (by omega) u3 x3_1 t131 [.int .i64 t131] (fun k_ => some k_ ≠ (.slice Ao14 t127.length co14 : Value).ownBlock) (fun _ => False) rfl rfl ?aP (fun _ hk => hk.elim) ?aF ?aO ?aB ?aS ?aL ?_; (case aP => exact rfl); (case aB => exact (by repeat ((with_reducible first | exact HB.out | apply pw_below_drewN)))); (case aF => exact (fun k_ hk => Kd.fresh' (Kd.R_lt (by (with_reducible repeat (apply Kd.R_drewN)); exact HO_2.out)) k_ hk)); (case aO => exact (by (with_reducible repeat (apply Kd.R_drewN)); exact HO_3.out)); (case aS => exact (below_size (by repeat ((with_reducible first | exact HB.out | apply pw_below_drewN))))); (case aL => have := LMc13.out; omega); intro v134 w15 ho hb hg hat; rw [← Ny133.out] at ho; have n0_ := Ak (Kd.R_after (ok := (fun _ => True)) (by (with_reducible repeat (apply Kd.R_drewN)); exact Kd.R_mono HO_2.out (fun _ hk => ⟨trivial, hk⟩)) hg hat); have n1_ := Ak (hb); have n2_ := Ak (ho); clear HO_2 HB HO_3; have HO_2 := n0_; have HB := n1_; have HO135 := n2_; clear n0_ n1_ n2_ ho hb hg hat))
       go_roundg k1
       case measure => have := HK1.out; omega
       case rel => exact ⟨(y133), (wrap64 (x16_1 + 1)), (by rfl), H', ⟨by have := HK1.out; omega⟩, ⟨by exact Kd.R_mono HO_2.out (fun _ hk => hk.2)⟩, ⟨by exact HO135.out⟩, ⟨by exact HB.out⟩⟩
      ·rw [if_neg c13] at H
       exact absurd H (by simp)
     ·rw [if_neg c11] at H
      exact absurd H (by simp)
    ·rw [if_neg c10] at H
     exact absurd H (by simp)
   ·rw [if_neg c9] at H
    have c9b0 : decide (x16_1 < (l0.length : Int)) = false := decide_eq_false c9
    clear c9
    simp only [Option.some.injEq, Prod.mk.injEq] at H
    obtain ⟨rfl, rfl⟩ := H
    go_wp2
    go_ret2
    exact ⟨_, _, by rfl, by exact HO_2.out, by exact HO_3.out, by exact HB.out⟩
mutual
def e_packed.l0 : Nat → List Int → Int → Int → List Int → Int → Int → Option (List Int)
 | 0, _, _, _, _, _, _ => none
 | k + 1, x0, x2, x7, x11, x12, x13 => if x13 < x12 then (if 0 ≤ x13 then (if x13 < (x11.length : Int) then (e_packed.l1 k x0 x2 x7 (rd x11 x13) (wrap64 (x2 - 1)) x11 x12 x13) else (none)) else (none)) else (some x0)
def e_packed.l1 : Nat → List Int → Int → Int → Int → Int → List Int → Int → Int → Option (List Int)
 | 0, _, _, _, _, _, _, _, _ => none
 | k + 1, x0, x2, x7, x9, x10, x11, x12, x13 => if x10 ≥ 0 then (if (Int.tmod x7 8) = 0 then (if x0.length < 140737488355328 then ((some (x0 ++ [0] : List Int)).bind fun y137 => (if 0 ≤ (wrap64 ((y137.length : Int) - 1)) then (if (wrap64 ((y137.length : Int) - 1)) < (y137.length : Int) then (if 0 ≤ x10 then (if 0 ≤ (wrap64 (7 - (Int.tmod x7 8))) then (e_packed.l1 k (y137.set ((wrap64 ((y137.length : Int) - 1)) : Int).toNat (Go.bits .or .u8 (rd y137 (wrap64 ((y137.length : Int) - 1))) (shl .u8 ((Go.bits .and .i64 (shr .i64 x9 x10) 1) % 256) (wrap64 (7 - (Int.tmod x7 8)))))) x2 (wrap64 (x7 + 1)) x9 (wrap64 (x10 - 1)) x11 x12 x13) else (none)) else (none)) else (none)) else (none))) else (none)) else (if 0 ≤ (wrap64 ((x0.length : Int) - 1)) then (if (wrap64 ((x0.length : Int) - 1)) < (x0.length : Int) then (if 0 ≤ x10 then (if 0 ≤ (wrap64 (7 - (Int.tmod x7 8))) then (e_packed.l1 k (x0.set ((wrap64 ((x0.length : Int) - 1)) : Int).toNat (Go.bits .or .u8 (rd x0 (wrap64 ((x0.length : Int) - 1))) (shl .u8 ((Go.bits .and .i64 (shr .i64 x9 x10) 1) % 256) (wrap64 (7 - (Int.tmod x7 8)))))) x2 (wrap64 (x7 + 1)) x9 (wrap64 (x10 - 1)) x11 x12 x13) else (none)) else (none)) else (none)) else (none))) else (e_packed.l0 k x0 x2 x7 x11 x12 (wrap64 (x13 + 1)))
end
def e_packed.f (k : Nat) (l0 : List Int) (l1 : List Int) (a2 : Int) : Option (List Int) := e_packed.l0 k l0 a2 0 l1 (l1.length : Int) 0
theorem e_packed.mono_l : ∀ k, (∀ y0 y1 y2 y3 y4 y5, LeO (e_packed.l0 k y0 y1 y2 y3 y4 y5) (e_packed.l0 (k + 1) y0 y1 y2 y3 y4 y5)) ∧ (∀ y0 y1 y2 y3 y4 y5 y6 y7, LeO (e_packed.l1 k y0 y1 y2 y3 y4 y5 y6 y7) (e_packed.l1 (k + 1) y0 y1 y2 y3 y4 y5 y6 y7))
 | 0 => ⟨fun _ _ _ _ _ _ r h => by simp [e_packed.l0] at h, fun _ _ _ _ _ _ _ _ r h => by simp [e_packed.l1] at h⟩
 | k + 1 => by
  obtain ⟨ih0, ih1⟩ := e_packed.mono_l k
  refine ⟨?_, ?_⟩ <;> intros
  all_goals (first | unfold e_packed.l0 | unfold e_packed.l1)
  all_goals
   repeat' first
   | (with_reducible exact ih0 _ _ _ _ _ _)
   | (with_reducible exact ih1 _ _ _ _ _ _ _ _)
   | (with_reducible exact LeO.refl _)
   | (with_reducible refine LeO.ite ?_ ?_)
   | (with_reducible refine LeO.bind ?_ (fun _ => ?_))
theorem e_packed.mono : ∀ a0 a1 a2 k, LeO (e_packed.f k a0 a1 a2) (e_packed.f (k + 1) a0 a1 a2) := by
 intro a0 a1 a2 k
 obtain ⟨ih0, ih1⟩ := e_packed.mono_l k
 unfold e_packed.f
 repeat' first
  | (with_reducible exact ih0 _ _ _ _ _ _)
def e_packed.T10 : Bool × List (List Nat × List Nat) := (true, [([], []), ([], []), ([1], [1]), ([2], [2]), ([0, 3], [0, 3]), ([4], [4]), ([], []), ([], []), ([6, 7], [6, 7]), ([8], [8]), ([9], [9]), ([], []), ([11], [11]), ([12], [12]), ([10, 13], [10, 13]), ([5, 14], [5, 14]), ([0, 3, 0, 1, 2, 3, 4, 5, 6, 7, 8, 9, 10, 11, 12, 13, 14, 15], [0, 3]), ([16, 15, 0, 1, 2, 3, 4, 5, 6, 7, 8, 9, 10, 11, 12, 13, 14, 15], [15, 16])])
def e_packed.B10 : List Nat := [0, 0, 2, 6, 15, 31, 0, 0, 192, 448, 960, 0, 2048, 6144, 16320, 32767, 65535, 131071]
theorem e_packed.tab10 : rtab .any (opsOf Try.f77 10) = e_packed.T10 := by kernel_rfl
theorem e_packed.bits10 : waitsOk e_packed.T10.2 e_packed.B10 = true := by kernel_rfl
set_option maxHeartbeats 8000000 in
set_option maxRecDepth 100000 in
theorem e_packed.calls (k : Nat) (P0_ : Nat → Prop) (u9000_ : Value) (l0 : List Int) (A1 : Option Addr) (c1 : Nat) (l1 : List Int) (a2 : Int) (r : List Int) (w0 w : World) (hB : Below w0.heap.size w0 w) (ho0 : Kd.R (Kd.int .u8) 5 w w0.heap.size P0_ u9000_ l0) (hr1 : ∀ W_, Kept w W_ (fun k_ => P0_ k_) → Kd.C (Kd.int .i64) W_ A1 l1.length l1) (hc1 : l1.length ≤ c1) (h : e_packed.f k l0 l1 a2 = some r) :
 Calls Try.prog 77 #[u9000_, .slice A1 l1.length c1, .int .i64 a2] w fun e w' => ∃ v0_ : Value, e = .returned (v0_) ∧ Kd.R (Kd.int .u8) 5 w' w0.heap.size (fun k_ => (P0_ k_ ∨ w.heap.size ≤ k_)) v0_ r ∧ Below w0.heap.size w0 w' ∧ Kept w w' (fun k_ => P0_ k_) := by
 have HO0 := Ak (show Kd.R (Kd.int .u8) 5 w w0.heap.size (fun k_ => (P0_ k_ ∨ w.heap.size ≤ k_)) u9000_ l0 from Kd.R_mono ho0 (fun k_ hk => (.inl hk)))
 have HR1 := Ak hr1
 have HC1 := Ak hc1
 clear hr1 hc1
 have HK := Ak (Kept.refl w (fun k_ => P0_ k_))
 have HW0 := Ak hB.size
 have HB := Ak hB
 clear hB
 have H : (e_packed.l0 k l0 a2 0 l1 (l1.length : Int) 0) = some r := h
 clear h
 have H' := Ak H
 clear H
 go_enter Try.func77, Try.ntmps77
 go_wp2
 go_loopg [0, 7, 13] k (fun kq v0 v7 v13 w' => ∃ (x0_1 : List Int) (x7_1 : Int) (x13_1 : Int), v7 = .int .i64 x7_1 ∧ v13 = .int .i64 x13_1 ∧ Aside0 (e_packed.l0 kq x0_1 a2 x7_1 l1 (l1.length : Int) x13_1 = some r) ∧ Aside0 (kq ≤ k) ∧ Aside0 (Kd.R (Kd.int .u8) 5 w' w0.heap.size (fun k_ => (P0_ k_ ∨ w.heap.size ≤ k_)) v0 x0_1) ∧ Aside0 (Kept w w' (fun k_ => P0_ k_)) ∧ Aside0 (Below w0.heap.size w0 w'))
 case atStart => exact ⟨(l0), (0), (0), (by rfl), (by rfl), H', ⟨Nat.le_refl _⟩, ⟨by exact HO0.out⟩, ⟨by exact HK.out⟩, ⟨by exact HB.out⟩⟩
 case round =>
  clear H'
  obtain ⟨x0_1, x7_1, x13_1, rfl, rfl, HA, HK1, HO_0, HK, HB⟩ := hrel
  cases gk with
  | zero => exact absurd HA.out (by simp [e_packed.l0])
  | succ k1 =>
   have H := HA.out
   clear HA
   simp only [e_packed.l0] at H
   by_cases c4 : x13_1 < (l1.length : Int)
   ·rw [if_pos c4] at H
    have c4b0 : decide (x13_1 < (l1.length : Int)) = true := decide_eq_true c4
    clear c4
    by_cases c5 : 0 ≤ x13_1
    ·rw [if_pos c5] at H
     have c5b0 : decide (0 ≤ x13_1) = true := decide_eq_true c5
     clear c5
     by_cases c6 : x13_1 < (l1.length : Int)
     ·rw [if_pos c6] at H
      have c6b0 : decide (x13_1 < (l1.length : Int)) = true := decide_eq_true c6
      clear c6
      have H' := Ak H
      clear H
      have p136 : 0 ≤ (x13_1 : Int) := of_decide_eq_true (by (with_reducible assumption))
      have q136 : x13_1 < (l1.length : Int) := of_decide_eq_true (by (with_reducible assumption))
      obtain ⟨ad136, e136, hx136_0⟩ := Kd.at_int (Kd.C_kept_now HR1.out HK.out) x13_1 p136 q136
      cases e136
      replace p136 := eq_true p136
      replace q136 := eq_true q136
      go_wp2
      go_loopg [0, 7, 10] k1 (fun kq v0 v7 v10 w' => ∃ (x0_2 : List Int) (x7_2 : Int) (x10_2 : Int), v7 = .int .i64 x7_2 ∧ v10 = .int .i64 x10_2 ∧ Aside0 (e_packed.l1 kq x0_2 a2 x7_2 (rd l1 x13_1) x10_2 l1 (l1.length : Int) x13_1 = some r) ∧ Aside0 (kq ≤ k1) ∧ Aside0 (Kd.R (Kd.int .u8) 5 w' w0.heap.size (fun k_ => (P0_ k_ ∨ w.heap.size ≤ k_)) v0 x0_2) ∧ Aside0 (Kept w w' (fun k_ => P0_ k_)) ∧ Aside0 (Below w0.heap.size w0 w'))
      case atStart => exact ⟨(x0_1), (x7_1), (wrap64 (a2 - 1)), (by rfl), (by rfl), H', ⟨Nat.le_refl _⟩, ⟨by exact HO_0.out⟩, ⟨by exact HK.out⟩, ⟨by exact HB.out⟩⟩
      case round =>
       clear H'
       try clear c4b0
       try clear c5b0
       try clear c6b0
       try clear hx136_0
       try clear p136
       try clear q136
       obtain ⟨x0_2, x7_2, x10_2, rfl, rfl, HA, HK2, HO_0, HK, HB⟩ := hrel
       cases gk with
       | zero => exact absurd HA.out (by simp [e_packed.l1])
       | succ k2 =>
        have H := HA.out
        clear HA
        simp only [e_packed.l1] at H
        by_cases c7 : x10_2 ≥ 0
        ·rw [if_pos c7] at H
         have c7b0 : decide (0 ≤ x10_2) = true := decide_eq_true c7
         clear c7
         by_cases c8 : (Int.tmod x7_2 8) = 0
         ·rw [if_pos c8] at H
          have c8b0 : ((Int.tmod x7_2 8) == 0) = true := beq_iff_eq.mpr c8
          have c8b1 : ((Int.tmod x7_2 8) != 0) = false := bne_eq_false_iff_eq.mpr c8
          clear c8
          by_cases c9 : x0_2.length < 140737488355328
          ·rw [if_pos c9] at H
           have LMc9 := Ak c9
           clear c9
           obtain ⟨y137, hy137⟩ : ∃ y_ : List Int, y_ = (x0_2 ++ [0]) := ⟨_, rfl⟩
           replace H : (if 0 ≤ (wrap64 ((y137.length : Int) - 1)) then (if (wrap64 ((y137.length : Int) - 1)) < (y137.length : Int) then (if 0 ≤ x10_2 then (if 0 ≤ (wrap64 (7 - (Int.tmod x7_2 8))) then (e_packed.l1 k2 (y137.set ((wrap64 ((y137.length : Int) - 1)) : Int).toNat (Go.bits .or .u8 (rd y137 (wrap64 ((y137.length : Int) - 1))) (shl .u8 ((Go.bits .and .i64 (shr .i64 (rd l1 x13_1) x10_2) 1) % 256) (wrap64 (7 - (Int.tmod x7_2 8)))))) a2 (wrap64 (x7_2 + 1)) (rd l1 x13_1) (wrap64 (x10_2 - 1)) l1 (l1.length : Int) x13_1) else (none)) else (none)) else (none)) else (none)) = some r := by (have H2_ := (Option.bind_some _ _).symm.trans H; rw [hy137]; with_reducible exact H2_)
           have Ny137 := Ak hy137
           clear hy137
           obtain ⟨ji10, hji10⟩ : ∃ j_ : Int, (wrap64 ((y137.length : Int) - 1)) = j_ := ⟨_, rfl⟩
           replace H : (if 0 ≤ (ji10) then (if (ji10) < (y137.length : Int) then (if 0 ≤ x10_2 then (if 0 ≤ (wrap64 (7 - (Int.tmod x7_2 8))) then (e_packed.l1 k2 (y137.set ((ji10) : Int).toNat (Go.bits .or .u8 (rd y137 (ji10)) (shl .u8 ((Go.bits .and .i64 (shr .i64 (rd l1 x13_1) x10_2) 1) % 256) (wrap64 (7 - (Int.tmod x7_2 8)))))) a2 (wrap64 (x7_2 + 1)) (rd l1 x13_1) (wrap64 (x10_2 - 1)) l1 (l1.length : Int) x13_1) else (none)) else (none)) else (none)) else (none)) = some r := by (rw [hji10] at H; exact H)
           have hji10w : (IntKind.i64.wrap ((y137.length : Int) - 1)) = ji10 := (i64_w _).trans hji10
           by_cases c11 : 0 ≤ (ji10)
           ·rw [if_pos c11] at H
            have c11b0 : decide (0 ≤ (ji10)) = true := decide_eq_true c11
            clear c11
            by_cases c12 : (ji10) < (y137.length : Int)
            ·rw [if_pos c12] at H
             have c12b0 : decide ((ji10) < (y137.length : Int)) = true := decide_eq_true c12
             clear c12
             by_cases c13 : 0 ≤ x10_2
             ·rw [if_pos c13] at H
              have c13b0 := eq_true c13
              have c13b1 : decide (0 ≤ x10_2) = true := decide_eq_true c13
              clear c13
              obtain ⟨ji14, hji14⟩ : ∃ j_ : Int, (shr .i64 (rd l1 x13_1) x10_2) = j_ := ⟨_, rfl⟩
              replace H : (if 0 ≤ (wrap64 (7 - (Int.tmod x7_2 8))) then (e_packed.l1 k2 (y137.set ((ji10) : Int).toNat (Go.bits .or .u8 (rd y137 (ji10)) (shl .u8 ((Go.bits .and .i64 (ji14) 1) % 256) (wrap64 (7 - (Int.tmod x7_2 8)))))) a2 (wrap64 (x7_2 + 1)) (rd l1 x13_1) (wrap64 (x10_2 - 1)) l1 (l1.length : Int) x13_1) else (none)) = some r := by (rw [hji14] at H; exact H)
              have hji14_ : ((rd l1 x13_1) / 2 ^ min x10_2.toNat 64) = ji14 := hji14
              have hji14z : x10_2 ≤ 64 → ((rd l1 x13_1) / 2 ^ x10_2.toNat) = ji14 := shr_small hji14
              obtain ⟨ji15, hji15⟩ : ∃ j_ : Int, (wrap64 (7 - (Int.tmod x7_2 8))) = j_ := ⟨_, rfl⟩
              replace H : (if 0 ≤ (ji15) then (e_packed.l1 k2 (y137.set ((ji10) : Int).toNat (Go.bits .or .u8 (rd y137 (ji10)) (shl .u8 ((Go.bits .and .i64 (ji14) 1) % 256) (ji15)))) a2 (wrap64 (x7_2 + 1)) (rd l1 x13_1) (wrap64 (x10_2 - 1)) l1 (l1.length : Int) x13_1) else (none)) = some r := by (rw [hji15] at H; exact H)
              have hji15w : (IntKind.i64.wrap (7 - (Int.tmod x7_2 8))) = ji15 := (i64_w _).trans hji15
              by_cases c16 : 0 ≤ (ji15)
              ·rw [if_pos c16] at H
               have c16b0 := eq_true c16
               have c16b1 : decide (0 ≤ (ji15)) = true := decide_eq_true c16
               clear c16
               obtain ⟨ji17, hji17⟩ : ∃ j_ : Int, (shl .u8 ((Go.bits .and .i64 (ji14) 1) % 256) (ji15)) = j_ := ⟨_, rfl⟩
               replace H : (e_packed.l1 k2 (y137.set ((ji10) : Int).toNat (Go.bits .or .u8 (rd y137 (ji10)) (ji17))) a2 (wrap64 (x7_2 + 1)) (rd l1 x13_1) (wrap64 (x10_2 - 1)) l1 (l1.length : Int) x13_1) = some r := by (rw [hji17] at H; exact H)
               have hji17_ : (IntKind.u8.wrap (((Go.bits .and .i64 (ji14) 1) % 256) * 2 ^ min (ji15).toNat 8)) = ji17 := hji17
               have hji17v : ((((Go.bits .and .i64 (ji14) 1) % 256) * 2 ^ min (ji15).toNat 8) % 256) = ji17 := hji17
               have hji17z : (ji15) ≤ 8 → (IntKind.u8.wrap (((Go.bits .and .i64 (ji14) 1) % 256) * 2 ^ (ji15).toNat)) = ji17 := shl_small hji17
               obtain ⟨y141, hy141⟩ : ∃ y_ : List Int, y_ = (y137.set ((ji10) : Int).toNat (Go.bits .or .u8 (rd y137 (ji10)) (ji17))) := ⟨_, rfl⟩
               replace H : (e_packed.l1 k2 y141 a2 (wrap64 (x7_2 + 1)) (rd l1 x13_1) (wrap64 (x10_2 - 1)) l1 (l1.length : Int) x13_1) = some r := by (rw [hy141]; with_reducible exact H)
               have Ny141 := Ak hy141
               clear hy141
               have H' := Ak H
               clear H
               try go_wp2_with (first | ((with_reducible refine gate_builtin (b := .append) (xs := #[.tmp 26, .tmp 27]) rfl ?_); at_builtin; refine Kd.R_append (Kd.int .u8) (w0 := w0) w0.heap.size rfl (.tmp 26) (.tmp 27) 27 5 (.int .u8 0) 1 rfl Try.underlying27 info5 rfl (by decide) (by omega) u0 x0_2 0 [.int .u8 0] (fun k_ => (P0_ k_ ∨ w.heap.size ≤ k_)) (fun _ => False) rfl rfl ?aP (fun _ hk => hk.elim) ?aF ?aO ?aB ?aS ?aL ?_; (case aP => exact rfl); (case aB => exact (by exact HB.out)); (case aF => exact (fun k_ hk => (.inr (Nat.le_trans (by exact HK.out.1) hk)))); (case aO => exact (by exact HO_0.out)); (case aS => exact (below_size (by exact HB.out))); (case aL => have := LMc9.out; omega); intro v138 w19 ho hb hg hat; rw [← Ny137.out] at ho; have n0_ := Ak (hb); have n1_ := Ak (Kept.of_grown (S := (fun k_ => P0_ k_)) hg (by exact HK.out) (fun k_ e_ => (HO_0.out.1 k_ e_))); have n2_ := Ak (ho); clear HB HK HO_0; have HB := n0_; have HK := n1_; have HO139 := n2_; clear n0_ n1_ n2_ ho hb hg hat))
               have n0_ := Ak (Kd.R_drew HO139.out)
               have n1_ := Ak (Kept.drew HK.out)
               have n2_ := Ak (below_drew1 HB.out)
               clear HO139 HK HB
               have HO139 := n0_
               have HK := n1_
               have HB := n2_
               clear n0_ n1_ n2_
               obtain ⟨Ao21, co21, eo21⟩ := Kd.R_slice HO139.out
               (subst eo21)
               have p140 : 0 ≤ ((ji10) : Int) := of_decide_eq_true (by (with_reducible assumption))
               have q140 : (ji10) < (y137.length : Int) := of_decide_eq_true (by (with_reducible assumption))
               obtain ⟨ad140, e140, hx140_0⟩ := Kd.at_int (Kd.R_reads' HO139.out).2.2 (ji10) p140 q140
               cases e140
               replace p140 := eq_true p140
               replace q140 := eq_true q140
               have p18 : 0 ≤ ((ji10) : Int) := of_decide_eq_true (by (with_reducible assumption))
               have q18 : ((ji10) : Int) < ((y137.length : Int) : Int) := of_decide_eq_true (by (with_reducible assumption))
               obtain ⟨go18, co18, eo18, gb18, gl18, cl18, HG18⟩ := Kd.R_form HO139.out (by omega)
               (cases eo18)
               have GB18 := Ak gb18
               have GG18 := Ak HG18
               clear gb18 gl18 HG18
               have HMgo18 := Ak (show (P0_ go18 ∨ w.heap.size ≤ go18) from (HO139.out.1 _ rfl))
               (simp only [add_plain] at hx140_0)
               obtain ⟨hx18_0, hf18_0⟩ := Kd.R_celln 0 HO139.out ((ji10) : Int) p18 q18
               replace p18 := eq_true p18
               replace q18 := eq_true q18
               have HP22 := Kd.R_putn HO139.out ((ji10) : Int) (Go.bits .or .u8 (rd y137 (ji10)) (ji17))
               rw [← Ny141.out] at HP22
               have HQ22 := Ak HP22
               clear HP22
               refine start_ (n := 18) (S := fun w' => w'.cell? ⟨go18, ((ji10)).toNat, none⟩ = some (.int .u8 (rd y137 (ji10)))) (ds := [17]) #[false, false, false, false, false, false, false, false, false, false, false, false, false, false, false, false, false, false] (by kernel_rfl) rfl rfl (hx140_0) (fun hHeld => ?_); refine with_tabW e_packed.tab10 e_packed.bits10 (fun HT_ HW_ => ?_)
               generalize w19.drew = w20 at HO139 HK HB GG18 HQ22 hf18_0 hx140_0 hx18_0 hHeld ⊢
               refine pure_ (i := 0) (N := some 29) (v := ?_) (a' := ?_) #[true, false, false, false, false, false, false, false, false, false, false, false, false, false, false, false, false, false] rfl rfl (any_of HT_.out (by kernel_rfl)) (fun _ _ _ h => h) (Or.inl ⟨by rfl, ?_⟩) ?_ ?_
               rotate_left
               ·intro w'
                go_simp
                with_reducible rfl
               rotate_left
               ·simp only [Act.put, List.setIfInBounds_toArray, List.set_cons_zero, List.set_cons_succ, i64_w, i32_w]
                rfl
               refine pure_ (i := 1) (N := some 30) (v := ?_) (a' := ?_) #[true, true, false, false, false, false, false, false, false, false, false, false, false, false, false, false, false, false] rfl rfl (any_of HT_.out (by kernel_rfl)) (fun _ _ _ h => h) (Or.inl ⟨by rfl, ?_⟩) ?_ ?_
               rotate_left
               ·intro w'
                go_simp
                with_reducible rfl
               rotate_left
               ·simp only [Act.put, List.setIfInBounds_toArray, List.set_cons_zero, List.set_cons_succ, i64_w, i32_w]
                rfl
               refine pure_ (i := 2) (N := some 31) (v := ?_) (a' := ?_) #[true, true, true, false, false, false, false, false, false, false, false, false, false, false, false, false, false, false] rfl rfl (any_of HT_.out (by kernel_rfl)) (fun _ _ _ h => h) (Or.inl ⟨by rfl, ?_⟩) ?_ ?_
               rotate_left
               ·intro w'
                go_simp
                with_reducible rfl
               rotate_left
               ·simp only [Act.put, List.setIfInBounds_toArray, List.set_cons_zero, List.set_cons_succ, i64_w, i32_w]
                rfl
               refine pure_ (i := 3) (N := some 32) (v := ?_) (a' := ?_) #[true, true, true, true, false, false, false, false, false, false, false, false, false, false, false, false, false, false] rfl rfl (any_of HT_.out (by kernel_rfl)) (fun _ _ _ h => h) (Or.inl ⟨by rfl, ?_⟩) ?_ ?_
               rotate_left
               ·intro w'
                go_simp
                with_reducible rfl
               rotate_left
               ·simp only [Act.put, List.setIfInBounds_toArray, List.set_cons_zero, List.set_cons_succ, i64_w, i32_w]
                rfl
               refine pure_ (i := 4) (N := some 33) (v := ?_) (a' := ?_) #[true, true, true, true, true, false, false, false, false, false, false, false, false, false, false, false, false, false] rfl rfl (any_of HT_.out (by kernel_rfl)) (fun _ _ _ h => h) (Or.inl ⟨by rfl, ?_⟩) ?_ ?_
               rotate_left
               ·intro w'
                go_simp
                with_reducible rfl
               rotate_left
               ·simp only [Act.put, List.setIfInBounds_toArray, List.set_cons_zero, List.set_cons_succ, i64_w, i32_w]
                rfl
               refine pure_ (i := 6) (N := some 35) (v := ?_) (a' := ?_) #[true, true, true, true, true, false, true, false, false, false, false, false, false, false, false, false, false, false] rfl rfl (any_of HT_.out (by kernel_rfl)) (fun _ _ _ h => h) (Or.inl ⟨by rfl, ?_⟩) ?_ ?_
               rotate_left
               ·intro w'
                go_simp
                with_reducible rfl
               rotate_left
               ·simp only [Act.put, List.setIfInBounds_toArray, List.set_cons_zero, List.set_cons_succ, i64_w, i32_w]
                rfl
               refine pure_ (i := 7) (N := some 36) (v := ?_) (a' := ?_) #[true, true, true, true, true, false, true, true, false, false, false, false, false, false, false, false, false, false] rfl rfl (any_of HT_.out (by kernel_rfl)) (fun _ _ _ h => h) (Or.inl ⟨by rfl, ?_⟩) ?_ ?_
               rotate_left
               ·intro w'
                go_simp
                with_reducible rfl
               rotate_left
               ·simp only [Act.put, List.setIfInBounds_toArray, List.set_cons_zero, List.set_cons_succ, i64_w, i32_w]
                rfl
               refine pure_ (i := 8) (N := some 37) (v := ?_) (a' := ?_) #[true, true, true, true, true, false, true, true, true, false, false, false, false, false, false, false, false, false] rfl rfl (any_of HT_.out (by kernel_rfl)) (fun _ _ _ h => h) (Or.inl ⟨by rfl, ?_⟩) ?_ ?_
               rotate_left
               ·intro w'
                go_simp
                with_reducible rfl
               rotate_left
               ·simp only [Act.put, List.setIfInBounds_toArray, List.set_cons_zero, List.set_cons_succ, i64_w, i32_w]
                rfl
               refine pure_ (i := 9) (N := some 38) (v := ?_) (a' := ?_) #[true, true, true, true, true, false, true, true, true, true, false, false, false, false, false, false, false, false] rfl rfl (any_of HT_.out (by kernel_rfl)) (fun _ _ _ h => h) (Or.inl ⟨by rfl, ?_⟩) ?_ ?_
               rotate_left
               ·intro w'
                go_simp
                with_reducible rfl
               rotate_left
               ·simp only [Act.put, List.setIfInBounds_toArray, List.set_cons_zero, List.set_cons_succ, i64_w, i32_w]
                rfl
               refine pure_ (i := 10) (N := some 39) (v := ?_) (a' := ?_) #[true, true, true, true, true, false, true, true, true, true, true, false, false, false, false, false, false, false] rfl rfl (any_of HT_.out (by kernel_rfl)) (fun _ _ _ h => h) (Or.inl ⟨by rfl, ?_⟩) ?_ ?_
               rotate_left
               ·intro w'
                go_simp
                with_reducible rfl
               rotate_left
               ·simp only [Act.put, List.setIfInBounds_toArray, List.set_cons_zero, List.set_cons_succ, i64_w, i32_w]
                rfl
               refine pure_ (i := 11) (N := some 40) (v := ?_) (a' := ?_) #[true, true, true, true, true, false, true, true, true, true, true, true, false, false, false, false, false, false] rfl rfl (any_of HT_.out (by kernel_rfl)) (fun _ _ _ h => h) (Or.inl ⟨by rfl, ?_⟩) ?_ ?_
               rotate_left
               ·intro w'
                go_simp
                with_reducible rfl
               rotate_left
               ·simp only [Act.put, List.setIfInBounds_toArray, List.set_cons_zero, List.set_cons_succ, i64_w, i32_w]
                rfl
               refine pure_ (i := 12) (N := some 41) (v := ?_) (a' := ?_) #[true, true, true, true, true, false, true, true, true, true, true, true, true, false, false, false, false, false] rfl rfl (any_of HT_.out (by kernel_rfl)) (fun _ _ _ h => h) (Or.inl ⟨by rfl, ?_⟩) ?_ ?_
               rotate_left
               ·intro w'
                go_simp
                with_reducible rfl
               rotate_left
               ·simp only [Act.put, List.setIfInBounds_toArray, List.set_cons_zero, List.set_cons_succ, i64_w, i32_w]
                rfl
               refine pure_ (i := 13) (N := some 42) (v := ?_) (a' := ?_) #[true, true, true, true, true, false, true, true, true, true, true, true, true, true, false, false, false, false] rfl rfl (any_of HT_.out (by kernel_rfl)) (fun _ _ _ h => h) (Or.inl ⟨by rfl, ?_⟩) ?_ ?_
               rotate_left
               ·intro w'
                go_simp
                with_reducible rfl
               rotate_left
               ·simp only [Act.put, List.setIfInBounds_toArray, List.set_cons_zero, List.set_cons_succ, i64_w, i32_w]
                rfl
               refine pure_ (i := 14) (N := some 43) (v := ?_) (a' := ?_) #[true, true, true, true, true, false, true, true, true, true, true, true, true, true, true, false, false, false] rfl rfl (any_of HT_.out (by kernel_rfl)) (fun _ _ _ h => h) (Or.inl ⟨by rfl, ?_⟩) ?_ ?_
               rotate_left
               ·intro w'
                go_simp
                with_reducible rfl
               rotate_left
               ·simp only [Act.put, List.setIfInBounds_toArray, List.set_cons_zero, List.set_cons_succ, i64_w, i32_w]
                rfl
               refine take_ (i := 5) (N := some 34) (v := ?_) (a' := ?_) #[true, true, true, true, true, true, true, true, true, true, true, true, true, true, true, false, false, false] rfl rfl (take_ofW HT_.out HW_.out (by kernel_rfl)) (fun _ _ _ h => h) (Or.inl ⟨by rfl, ?_⟩) hHeld ?_ ?_
               rotate_left
               ·intro w' s0
                go_simp
                with_reducible rfl
               rotate_left
               ·simp only [Act.put, List.setIfInBounds_toArray, List.set_cons_zero, List.set_cons_succ, i64_w, i32_w]
                rfl
               refine pure_ (i := 15) (N := some 44) (v := ?_) (a' := ?_) #[true, true, true, true, true, true, true, true, true, true, true, true, true, true, true, true, false, false] rfl rfl (any_of HT_.out (by kernel_rfl)) (fun _ _ _ h => h) (Or.inl ⟨by rfl, ?_⟩) ?_ ?_
               rotate_left
               ·intro w'
                go_simp
                with_reducible rfl
               rotate_left
               ·simp only [Act.put, List.setIfInBounds_toArray, List.set_cons_zero, List.set_cons_succ, i64_w, i32_w]
                rfl
               refine pure_ (i := 16) (N := some 45) (v := ?_) (a' := ?_) #[true, true, true, true, true, true, true, true, true, true, true, true, true, true, true, true, true, false] rfl rfl (any_of HT_.out (by kernel_rfl)) (fun _ _ _ h => h) (Or.inl ⟨by rfl, ?_⟩) ?_ ?_
               rotate_left
               ·intro w'
                go_simp
                with_reducible rfl
               rotate_left
               ·simp only [Act.put, List.setIfInBounds_toArray, List.set_cons_zero, List.set_cons_succ, i64_w, i32_w]
                rfl
               refine last_ (i := 17) (N := none) #[true, true, true, true, true, true, true, true, true, true, true, true, true, true, true, true, true, true] rfl rfl (one_of HT_.out (by kernel_rfl)) (by decide) (fun K hK => ?_)
               refine skip_ (w1 := ?_) (by rfl) rfl ?_ ?_
               rotate_left
               ·go_simp
                rfl
               refine hK.out _ _ ?_
               clear hK K
               refine done_ (done_of HT_.out (by kernel_rfl)) ?_
               try go_wp2
               go_roundg k2
               case measure => have := HK1.out; have := HK2.out; omega
               case rel => exact ⟨(y141), (wrap64 (x7_2 + 1)), (wrap64 (x10_2 - 1)), (by rfl), (by rfl), H', ⟨by have := HK1.out; have := HK2.out; omega⟩, ⟨by exact HQ22.out⟩, ⟨by repeat ((with_reducible first | exact HK.out | refine Kept.setCell ?_ HMgo18.out _))⟩, ⟨by repeat ((with_reducible first | exact HB.out | refine below_set ?_ GB18.out))⟩⟩
              ·rw [if_neg c16] at H
               exact absurd H (by simp)
             ·rw [if_neg c13] at H
              exact absurd H (by simp)
            ·rw [if_neg c12] at H
             exact absurd H (by simp)
           ·rw [if_neg c11] at H
            exact absurd H (by simp)
          ·rw [if_neg c9] at H
           exact absurd H (by simp)
         ·rw [if_neg c8] at H
          have c8b0 : ((Int.tmod x7_2 8) == 0) = false := beq_eq_false_iff_ne.mpr c8
          have c8b1 : ((Int.tmod x7_2 8) != 0) = true := bne_iff_ne.mpr c8
          obtain ⟨ji23, hji23⟩ : ∃ j_ : Int, (wrap64 ((x0_2.length : Int) - 1)) = j_ := ⟨_, rfl⟩
          replace H : (if 0 ≤ (ji23) then (if (ji23) < (x0_2.length : Int) then (if 0 ≤ x10_2 then (if 0 ≤ (wrap64 (7 - (Int.tmod x7_2 8))) then (e_packed.l1 k2 (x0_2.set ((ji23) : Int).toNat (Go.bits .or .u8 (rd x0_2 (ji23)) (shl .u8 ((Go.bits .and .i64 (shr .i64 (rd l1 x13_1) x10_2) 1) % 256) (wrap64 (7 - (Int.tmod x7_2 8)))))) a2 (wrap64 (x7_2 + 1)) (rd l1 x13_1) (wrap64 (x10_2 - 1)) l1 (l1.length : Int) x13_1) else (none)) else (none)) else (none)) else (none)) = some r := by (rw [hji23] at H; exact H)
          have hji23w : (IntKind.i64.wrap ((x0_2.length : Int) - 1)) = ji23 := (i64_w _).trans hji23
          by_cases c24 : 0 ≤ (ji23)
          ·rw [if_pos c24] at H
           have c24b0 : decide (0 ≤ (ji23)) = true := decide_eq_true c24
           clear c24
           by_cases c25 : (ji23) < (x0_2.length : Int)
           ·rw [if_pos c25] at H
            have c25b0 : decide ((ji23) < (x0_2.length : Int)) = true := decide_eq_true c25
            clear c25
            by_cases c26 : 0 ≤ x10_2
            ·rw [if_pos c26] at H
             have c26b0 := eq_true c26
             have c26b1 : decide (0 ≤ x10_2) = true := decide_eq_true c26
             clear c26
             obtain ⟨ji27, hji27⟩ : ∃ j_ : Int, (shr .i64 (rd l1 x13_1) x10_2) = j_ := ⟨_, rfl⟩
             replace H : (if 0 ≤ (wrap64 (7 - (Int.tmod x7_2 8))) then (e_packed.l1 k2 (x0_2.set ((ji23) : Int).toNat (Go.bits .or .u8 (rd x0_2 (ji23)) (shl .u8 ((Go.bits .and .i64 (ji27) 1) % 256) (wrap64 (7 - (Int.tmod x7_2 8)))))) a2 (wrap64 (x7_2 + 1)) (rd l1 x13_1) (wrap64 (x10_2 - 1)) l1 (l1.length : Int) x13_1) else (none)) = some r := by (rw [hji27] at H; exact H)
             have hji27_ : ((rd l1 x13_1) / 2 ^ min x10_2.toNat 64) = ji27 := hji27
             have hji27z : x10_2 ≤ 64 → ((rd l1 x13_1) / 2 ^ x10_2.toNat) = ji27 := shr_small hji27
             obtain ⟨ji28, hji28⟩ : ∃ j_ : Int, (wrap64 (7 - (Int.tmod x7_2 8))) = j_ := ⟨_, rfl⟩
             replace H : (if 0 ≤ (ji28) then (e_packed.l1 k2 (x0_2.set ((ji23) : Int).toNat (Go.bits .or .u8 (rd x0_2 (ji23)) (shl .u8 ((Go.bits .and .i64 (ji27) 1) % 256) (ji28)))) a2 (wrap64 (x7_2 + 1)) (rd l1 x13_1) (wrap64 (x10_2 - 1)) l1 (l1.length : Int) x13_1) else (none)) = some r := by (rw [hji28] at H; exact H)
             have hji28w : (IntKind.i64.wrap (7 - (Int.tmod x7_2 8))) = ji28 := (i64_w _).trans hji28
             by_cases c29 : 0 ≤ (ji28)
             ·rw [if_pos c29] at H
              have c29b0 := eq_true c29
              have c29b1 : decide (0 ≤ (ji28)) = true := decide_eq_true c29
              clear c29
              obtain ⟨ji30, hji30⟩ : ∃ j_ : Int, (shl .u8 ((Go.bits .and .i64 (ji27) 1) % 256) (ji28)) = j_ := ⟨_, rfl⟩
              replace H : (e_packed.l1 k2 (x0_2.set ((ji23) : Int).toNat (Go.bits .or .u8 (rd x0_2 (ji23)) (ji30))) a2 (wrap64 (x7_2 + 1)) (rd l1 x13_1) (wrap64 (x10_2 - 1)) l1 (l1.length : Int) x13_1) = some r := by (rw [hji30] at H; exact H)
              have hji30_ : (IntKind.u8.wrap (((Go.bits .and .i64 (ji27) 1) % 256) * 2 ^ min (ji28).toNat 8)) = ji30 := hji30
              have hji30v : ((((Go.bits .and .i64 (ji27) 1) % 256) * 2 ^ min (ji28).toNat 8) % 256) = ji30 := hji30
              have hji30z : (ji28) ≤ 8 → (IntKind.u8.wrap (((Go.bits .and .i64 (ji27) 1) % 256) * 2 ^ (ji28).toNat)) = ji30 := shl_small hji30
              obtain ⟨y143, hy143⟩ : ∃ y_ : List Int, y_ = (x0_2.set ((ji23) : Int).toNat (Go.bits .or .u8 (rd x0_2 (ji23)) (ji30))) := ⟨_, rfl⟩
              replace H : (e_packed.l1 k2 y143 a2 (wrap64 (x7_2 + 1)) (rd l1 x13_1) (wrap64 (x10_2 - 1)) l1 (l1.length : Int) x13_1) = some r := by (rw [hy143]; with_reducible exact H)
              have Ny143 := Ak hy143
              clear hy143
              have H' := Ak H
              clear H
              try go_wp2
              have n0_ := Ak (Kd.R_drew HO_0.out)
              have n1_ := Ak (Kept.drew HK.out)
              have n2_ := Ak (below_drew1 HB.out)
              clear HO_0 HK HB
              have HO_0 := n0_
              have HK := n1_
              have HB := n2_
              clear n0_ n1_ n2_
              obtain ⟨Ao33, co33, eo33⟩ := Kd.R_slice HO_0.out
              (subst eo33)
              have p142 : 0 ≤ ((ji23) : Int) := of_decide_eq_true (by (with_reducible assumption))
              have q142 : (ji23) < (x0_2.length : Int) := of_decide_eq_true (by (with_reducible assumption))
              obtain ⟨ad142, e142, hx142_0⟩ := Kd.at_int (Kd.R_reads' HO_0.out).2.2 (ji23) p142 q142
              cases e142
              replace p142 := eq_true p142
              replace q142 := eq_true q142
              have p31 : 0 ≤ ((ji23) : Int) := of_decide_eq_true (by (with_reducible assumption))
              have q31 : ((ji23) : Int) < ((x0_2.length : Int) : Int) := of_decide_eq_true (by (with_reducible assumption))
              obtain ⟨go31, co31, eo31, gb31, gl31, cl31, HG31⟩ := Kd.R_form HO_0.out (by omega)
              (cases eo31)
              have GB31 := Ak gb31
              have GG31 := Ak HG31
              clear gb31 gl31 HG31
              have HMgo31 := Ak (show (P0_ go31 ∨ w.heap.size ≤ go31) from (HO_0.out.1 _ rfl))
              (simp only [add_plain] at hx142_0)
              obtain ⟨hx31_0, hf31_0⟩ := Kd.R_celln 0 HO_0.out ((ji23) : Int) p31 q31
              replace p31 := eq_true p31
              replace q31 := eq_true q31
              have HP34 := Kd.R_putn HO_0.out ((ji23) : Int) (Go.bits .or .u8 (rd x0_2 (ji23)) (ji30))
              rw [← Ny143.out] at HP34
              have HQ34 := Ak HP34
              clear HP34
              refine start_ (n := 18) (S := fun w' => w'.cell? ⟨go31, ((ji23)).toNat, none⟩ = some (.int .u8 (rd x0_2 (ji23)))) (ds := [17]) #[false, false, false, false, false, false, false, false, false, false, false, false, false, false, false, false, false, false] (by kernel_rfl) rfl rfl (hx142_0) (fun hHeld => ?_); refine with_tabW e_packed.tab10 e_packed.bits10 (fun HT_ HW_ => ?_)
              generalize wr.drew = w32 at HO_0 HK HB GG31 HQ34 hf31_0 hx142_0 hx31_0 hHeld ⊢
              refine pure_ (i := 0) (N := some 29) (v := ?_) (a' := ?_) #[true, false, false, false, false, false, false, false, false, false, false, false, false, false, false, false, false, false] rfl rfl (any_of HT_.out (by kernel_rfl)) (fun _ _ _ h => h) (Or.inl ⟨by rfl, ?_⟩) ?_ ?_
              rotate_left
              ·intro w'
               go_simp
               with_reducible rfl
              rotate_left
              ·simp only [Act.put, List.setIfInBounds_toArray, List.set_cons_zero, List.set_cons_succ, i64_w, i32_w]
               rfl
              refine pure_ (i := 1) (N := some 30) (v := ?_) (a' := ?_) #[true, true, false, false, false, false, false, false, false, false, false, false, false, false, false, false, false, false] rfl rfl (any_of HT_.out (by kernel_rfl)) (fun _ _ _ h => h) (Or.inl ⟨by rfl, ?_⟩) ?_ ?_
              rotate_left
              ·intro w'
               go_simp
               with_reducible rfl
              rotate_left
              ·simp only [Act.put, List.setIfInBounds_toArray, List.set_cons_zero, List.set_cons_succ, i64_w, i32_w]
               rfl
              refine pure_ (i := 2) (N := some 31) (v := ?_) (a' := ?_) #[true, true, true, false, false, false, false, false, false, false, false, false, false, false, false, false, false, false] rfl rfl (any_of HT_.out (by kernel_rfl)) (fun _ _ _ h => h) (Or.inl ⟨by rfl, ?_⟩) ?_ ?_
              rotate_left
              ·intro w'
               go_simp
               with_reducible rfl
              rotate_left
              ·simp only [Act.put, List.setIfInBounds_toArray, List.set_cons_zero, List.set_cons_succ, i64_w, i32_w]
               rfl
              refine pure_ (i := 3) (N := some 32) (v := ?_) (a' := ?_) #[true, true, true, true, false, false, false, false, false, false, false, false, false, false, false, false, false, false] rfl rfl (any_of HT_.out (by kernel_rfl)) (fun _ _ _ h => h) (Or.inl ⟨by rfl, ?_⟩) ?_ ?_
              rotate_left
              ·intro w'
               go_simp
               with_reducible rfl
              rotate_left
              ·simp only [Act.put, List.setIfInBounds_toArray, List.set_cons_zero, List.set_cons_succ, i64_w, i32_w]
               rfl
              refine pure_ (i := 4) (N := some 33) (v := ?_) (a' := ?_) #[true, true, true, true, true, false, false, false, false, false, false, false, false, false, false, false, false, false] rfl rfl (any_of HT_.out (by kernel_rfl)) (fun _ _ _ h => h) (Or.inl ⟨by rfl, ?_⟩) ?_ ?_
              rotate_left
              ·intro w'
               go_simp
               with_reducible rfl
              rotate_left
              ·simp only [Act.put, List.setIfInBounds_toArray, List.set_cons_zero, List.set_cons_succ, i64_w, i32_w]
               rfl
              refine pure_ (i := 6) (N := some 35) (v := ?_) (a' := ?_) #[true, true, true, true, true, false, true, false, false, false, false, false, false, false, false, false, false, false] rfl rfl (any_of HT_.out (by kernel_rfl)) (fun _ _ _ h => h) (Or.inl ⟨by rfl, ?_⟩) ?_ ?_
              rotate_left
              ·intro w'
               go_simp
               with_reducible rfl
              rotate_left
              ·simp only [Act.put, List.setIfInBounds_toArray, List.set_cons_zero, List.set_cons_succ, i64_w, i32_w]
               rfl
              refine pure_ (i := 7) (N := some 36) (v := ?_) (a' := ?_) #[true, true, true, true, true, false, true, true, false, false, false, false, false, false, false, false, false, false] rfl rfl (any_of HT_.out (by kernel_rfl)) (fun _ _ _ h => h) (Or.inl ⟨by rfl, ?_⟩) ?_ ?_
              rotate_left
              ·intro w'
               go_simp
               with_reducible rfl
              rotate_left
              ·simp only [Act.put, List.setIfInBounds_toArray, List.set_cons_zero, List.set_cons_succ, i64_w, i32_w]
               rfl
              refine pure_ (i := 8) (N := some 37) (v := ?_) (a' := ?_) #[true, true, true, true, true, false, true, true, true, false, false, false, false, false, false, false, false, false] rfl rfl (any_of HT_.out (by kernel_rfl)) (fun _ _ _ h => h) (Or.inl ⟨by rfl, ?_⟩) ?_ ?_
              rotate_left
              ·intro w'
               go_simp
               with_reducible rfl
              rotate_left
              ·simp only [Act.put, List.setIfInBounds_toArray, List.set_cons_zero, List.set_cons_succ, i64_w, i32_w]
               rfl
              refine pure_ (i := 9) (N := some 38) (v := ?_) (a' := ?_) #[true, true, true, true, true, false, true, true, true, true, false, false, false, false, false, false, false, false] rfl rfl (any_of HT_.out (by kernel_rfl)) (fun _ _ _ h => h) (Or.inl ⟨by rfl, ?_⟩) ?_ ?_
              rotate_left
              ·intro w'
               go_simp
               with_reducible rfl
              rotate_left
              ·simp only [Act.put, List.setIfInBounds_toArray, List.set_cons_zero, List.set_cons_succ, i64_w, i32_w]
               rfl
              refine pure_ (i := 10) (N := some 39) (v := ?_) (a' := ?_) #[true, true, true, true, true, false, true, true, true, true, true, false, false, false, false, false, false, false] rfl rfl (any_of HT_.out (by kernel_rfl)) (fun _ _ _ h => h) (Or.inl ⟨by rfl, ?_⟩) ?_ ?_
              rotate_left
              ·intro w'
               go_simp
               with_reducible rfl
              rotate_left
              ·simp only [Act.put, List.setIfInBounds_toArray, List.set_cons_zero, List.set_cons_succ, i64_w, i32_w]
               rfl
              refine pure_ (i := 11) (N := some 40) (v := ?_) (a' := ?_) #[true, true, true, true, true, false, true, true, true, true, true, true, false, false, false, false, false, false] rfl rfl (any_of HT_.out (by kernel_rfl)) (fun _ _ _ h => h) (Or.inl ⟨by rfl, ?_⟩) ?_ ?_
              rotate_left
              ·intro w'
               go_simp
               with_reducible rfl
              rotate_left
              ·simp only [Act.put, List.setIfInBounds_toArray, List.set_cons_zero, List.set_cons_succ, i64_w, i32_w]
               rfl
              refine pure_ (i := 12) (N := some 41) (v := ?_) (a' := ?_) #[true, true, true, true, true, false, true, true, true, true, true, true, true, false, false, false, false, false] rfl rfl (any_of HT_.out (by kernel_rfl)) (fun _ _ _ h => h) (Or.inl ⟨by rfl, ?_⟩) ?_ ?_
              rotate_left
              ·intro w'
               go_simp
               with_reducible rfl
              rotate_left
              ·simp only [Act.put, List.setIfInBounds_toArray, List.set_cons_zero, List.set_cons_succ, i64_w, i32_w]
               rfl
              refine pure_ (i := 13) (N := some 42) (v := ?_) (a' := ?_) #[true, true, true, true, true, false, true, true, true, true, true, true, true, true, false, false, false, false] rfl rfl (any_of HT_.out (by kernel_rfl)) (fun _ _ _ h => h) (Or.inl ⟨by rfl, ?_⟩) ?_ ?_
              rotate_left
              ·intro w'
               go_simp
               with_reducible rfl
              rotate_left
              ·simp only [Act.put, List.setIfInBounds_toArray, List.set_cons_zero, List.set_cons_succ, i64_w, i32_w]
               rfl
              refine pure_ (i := 14) (N := some 43) (v := ?_) (a' := ?_) #[true, true, true, true, true, false, true, true, true, true, true, true, true, true, true, false, false, false] rfl rfl (any_of HT_.out (by kernel_rfl)) (fun _ _ _ h => h) (Or.inl ⟨by rfl, ?_⟩) ?_ ?_
              rotate_left
              ·intro w'
               go_simp
               with_reducible rfl
              rotate_left
              ·simp only [Act.put, List.setIfInBounds_toArray, List.set_cons_zero, List.set_cons_succ, i64_w, i32_w]
               rfl
              refine take_ (i := 5) (N := some 34) (v := ?_) (a' := ?_) #[true, true, true, true, true, true, true, true, true, true, true, true, true, true, true, false, false, false] rfl rfl (take_ofW HT_.out HW_.out (by kernel_rfl)) (fun _ _ _ h => h) (Or.inl ⟨by rfl, ?_⟩) hHeld ?_ ?_
              rotate_left
              ·intro w' s0
               go_simp
               with_reducible rfl
              rotate_left
              ·simp only [Act.put, List.setIfInBounds_toArray, List.set_cons_zero, List.set_cons_succ, i64_w, i32_w]
               rfl
              refine pure_ (i := 15) (N := some 44) (v := ?_) (a' := ?_) #[true, true, true, true, true, true, true, true, true, true, true, true, true, true, true, true, false, false] rfl rfl (any_of HT_.out (by kernel_rfl)) (fun _ _ _ h => h) (Or.inl ⟨by rfl, ?_⟩) ?_ ?_
              rotate_left
              ·intro w'
               go_simp
               with_reducible rfl
              rotate_left
              ·simp only [Act.put, List.setIfInBounds_toArray, List.set_cons_zero, List.set_cons_succ, i64_w, i32_w]
               rfl
              refine pure_ (i := 16) (N := some 45) (v := ?_) (a' := ?_) #[true, true, true, true, true, true, true, true, true, true, true, true, true, true, true, true, true, false] rfl rfl (any_of HT_.out (by kernel_rfl)) (fun _ _ _ h => h) (Or.inl ⟨by rfl, ?_⟩) ?_ ?_
              rotate_left
              ·intro w'
               go_simp
               with_reducible rfl
              rotate_left
              ·simp only [Act.put, List.setIfInBounds_toArray, List.set_cons_zero, List.set_cons_succ, i64_w, i32_w]
               rfl
              refine last_ (i := 17) (N := none) #[true, true, true, true, true, true, true, true, true, true, true, true, true, true, true, true, true, true] rfl rfl (one_of HT_.out (by kernel_rfl)) (by decide) (fun K hK => ?_)
              refine skip_ (w1 := ?_) (by rfl) rfl ?_ ?_
              rotate_left
              ·go_simp
               rfl
              refine hK.out _ _ ?_
              clear hK K
              refine done_ (done_of HT_.out (by kernel_rfl)) ?_
              try go_wp2
              go_roundg k2
              case measure => have := HK1.out; have := HK2.out; omega
              case rel => exact ⟨(y143), (wrap64 (x7_2 + 1)), (wrap64 (x10_2 - 1)), (by rfl), (by rfl), H', ⟨by have := HK1.out; have := HK2.out; omega⟩, ⟨by exact HQ34.out⟩, ⟨by repeat ((with_reducible first | exact HK.out | refine Kept.setCell ?_ HMgo31.out _))⟩, ⟨by repeat ((with_reducible first | exact HB.out | refine below_set ?_ GB31.out))⟩⟩
             ·rw [if_neg c29] at H
              exact absurd H (by simp)
            ·rw [if_neg c26] at H
             exact absurd H (by simp)
           ·rw [if_neg c25] at H
            exact absurd H (by simp)
          ·rw [if_neg c24] at H
           exact absurd H (by simp)
        ·rw [if_neg c7] at H
         have c7b0 : decide (0 ≤ x10_2) = false := decide_eq_false c7
         clear c7
         have H' := Ak H
         clear H
         go_wp2
         go_roundg k2
         case measure => have := HK1.out; have := HK2.out; omega
         case rel => exact ⟨(x0_2), (x7_2), (wrap64 (x13_1 + 1)), (by rfl), (by rfl), H', ⟨by have := HK1.out; have := HK2.out; omega⟩, ⟨by exact HO_0.out⟩, ⟨by exact HK.out⟩, ⟨by exact HB.out⟩⟩
     ·rw [if_neg c6] at H
      exact absurd H (by simp)
    ·rw [if_neg c5] at H
     exact absurd H (by simp)
   ·rw [if_neg c4] at H
    have c4b0 : decide (x13_1 < (l1.length : Int)) = false := decide_eq_false c4
    clear c4
    obtain rfl := Option.some.inj H
    go_wp2
    go_ret
    exact ⟨_, by rfl, by exact HO_0.out, by exact HB.out, by exact HK.out⟩
-- (written by hand)
def bits_Len.f (a0 : Int) : Option Int := if 0 ≤ a0 ∧ a0 ≤ 18446744073709551615 then some (Lib.bitLen a0.toNat) else none
theorem bits_Len.calls (a0 : Int) (r : Int) (w : World) (h : bits_Len.f a0 = some r) :
 Calls Try.prog 110 #[.int .u64 a0] w fun e w' => e = .returned (.int .i64 r) ∧ Drawn0 w w' := by
 unfold bits_Len.f at h
 split at h
 case isFalse => cases h
 rename_i hb
 obtain rfl := Option.some.inj h
 refine (Try.bits_Len a0 w hb.1 hb.2).mono ?_
 rintro e w' ⟨rfl, rfl⟩
 exact ⟨rfl, Drawn0.refl _⟩
def e_widthOf.f (a0 : Int) : Option (Int) := (bits_Len.f (IntKind.u64.wrap (a0))).bind fun t144 => (some t144)
set_option maxHeartbeats 8000000 in
set_option maxRecDepth 100000 in
theorem e_widthOf.calls (a0 : Int) (r : Int) (w : World) (h : e_widthOf.f a0 = some r) :
 Calls Try.prog 78 #[.int .i64 a0] w fun e w' => e = .returned (.int .i64 r) ∧ Drawn0 w w' := by
 have H : ((bits_Len.f (IntKind.u64.wrap (a0))).bind fun t144 => (some t144)) = some r := h
 clear h
 replace H := Option.bind_eq_some_iff.mp H
 obtain ⟨t144, A20, H⟩ := H
 replace H : (some t144) = some r := H
 have A2 := Ak A20
 clear A20
 obtain rfl := Option.some.inj H
 go_enter Try.func78, Try.ntmps78
 go_wp2_with (first | ((with_reducible refine gate_callee (f := 110) rfl ?_); refine goesL_ (some 5) rfl rfl Try.func110 (by kernel_rfl) rfl #[.int .u64 (IntKind.u64.wrap (a0))] rfl (by (try simp only [lm]); rfl) ?_; (with_reducible refine (bits_Len.calls (IntKind.u64.wrap (a0)) t144 _ A2.out).mono ?_); rintro e w' ⟨rfl, ⟨nd, rfl⟩⟩; refine ⟨_, rfl, ?_⟩))
 go_ret
 exact ⟨by rfl, by repeat (first | exact Drawn0.refl _ | apply Drawn0.step)⟩
mutual
def e_encode.l0 : Nat → List Int → List Int → Int → Int → Option (List Int)
 | 0, _, _, _, _ => none
 | k + 1, x5, x48, x49, x50 => if x50 < x49 then (if 0 ≤ x50 then (if x50 < (x48.length : Int) then ((e_number.f k x5 (rd x48 x50)).bind fun t152 => (e_encode.l0 k t152 x48 x49 (wrap64 (x50 + 1)))) else (none)) else (none)) else (some x5)
def e_encode.l1 : Nat → List Int → List Int → Int → Option (List Int)
 | 0, _, _, _ => none
 | k + 1, x1, x5, x8 => if x8 < (x1.length : Int) then (e_encode.l2 k x1 x5 x8 1) else (some x5)
def e_encode.l2 : Nat → List Int → List Int → Int → Int → Option (List Int)
 | 0, _, _, _, _ => none
 | k + 1, x1, x5, x8, x9 => if (wrap64 (x8 + x9)) < (x1.length : Int) then (if 0 ≤ (wrap64 (x8 + x9)) then (if 0 ≤ x8 then (if x8 < (x1.length : Int) then (if (rd x1 (wrap64 (x8 + x9))) = (rd x1 x8) then (e_encode.l2 k x1 x5 x8 (wrap64 (x9 + 1))) else ((e_number.f k x5 (rd x1 x8)).bind fun t158 => ((e_count.f k t158 (IntKind.u64.wrap (x9))).bind fun t161 => (e_encode.l1 k x1 t161 (wrap64 (x8 + x9)))))) else (none)) else (none)) else (none)) else (if 0 ≤ x8 then (if x8 < (x1.length : Int) then ((e_number.f k x5 (rd x1 x8)).bind fun t165 => ((e_count.f k t165 (IntKind.u64.wrap (x9))).bind fun t168 => (e_encode.l1 k x1 t168 (wrap64 (x8 + x9))))) else (none)) else (none))
def e_encode.l3 : Nat → List Int → List Int → List Int → Int → Option (List Int)
 | 0, _, _, _, _ => none
 | k + 1, x5, x10, x11, x12 => if x12 < (x10.length : Int) then (if 0 ≤ x12 then (if 0 ≤ (wrap64 (x12 - 1)) then (if (wrap64 (x12 - 1)) < (x10.length : Int) then ((e_count.f k x5 (IntKind.u64.wrap (wrap64 ((rd x10 x12) - (rd x10 (wrap64 (x12 - 1))))))).bind fun t186 => (e_encode.l3 k t186 x10 x11 (wrap64 (x12 + 1)))) else (none)) else (none)) else (none)) else ((e_widthOf.f (wrap64 ((x10.length : Int) - 1))).bind fun t189 => ((e_packed.f k x5 x11 t189).bind fun t190 => (some t190)))
def e_encode.l4 : Nat → List Int → Int → Int → List Int → List Int → Int → Int → Option (List Int)
 | 0, _, _, _, _, _, _, _ => none
 | k + 1, x5, x13, x14, x15, x156, x157, x158 => if x158 < x157 then (if 0 ≤ x158 then (if x158 < (x156.length : Int) then (if x15.length < 17592186044416 then (e_encode.l4 k x5 x13 x14 (x15 ++ [wrap64 ((rd x156 x158) - x13)]) x156 x157 (wrap64 (x158 + 1))) else (none)) else (none)) else (none)) else ((e_packed.f k x5 x15 x14).bind fun t207 => (some t207))
def e_encode.l5 : Nat → List Int → Int → List Int → Int → Int → Option (List Int)
 | 0, _, _, _, _, _ => none
 | k + 1, x5, x18, x33, x34, x35 => if x35 < x34 then (if 0 ≤ x35 then (if x35 < (x33.length : Int) then ((e_number.f k x5 (wrap64 ((rd x33 x35) - x18))).bind fun t211 => (e_encode.l5 k t211 (rd x33 x35) x33 x34 (wrap64 (x35 + 1)))) else (none)) else (none)) else (some x5)
end
def e_encode.f (k : Nat) (a0 : Int) (l1 : List Int) : Option (List Int) := (e_count.f k (([(a0) % 256] : List Int)) (IntKind.u64.wrap ((l1.length : Int)))).bind fun t148 => (if (l1.length : Int) = 0 then (some t148) else (if a0 = 1 then (e_encode.l0 k t148 l1 (l1.length : Int) 0) else (if a0 = 2 then (e_encode.l1 k l1 t148 0) else (if a0 = 3 then ((e_distinct.f k l1).bind fun bt171 => ((e_count.f k t148 (IntKind.u64.wrap ((bt171.1.length : Int)))).bind fun t177 => (if 0 < (bt171.1.length : Int) then ((e_number.f k t177 (rd bt171.1 0)).bind fun t181 => (e_encode.l3 k t181 bt171.1 bt171.2 1)) else (none)))) else (if a0 = 4 then ((s_Min.f l1).bind fun t193 => ((s_Max.f l1).bind fun t194 => ((s_Min.f l1).bind fun t195 => ((e_widthOf.f (wrap64 (t194 - t195))).bind fun t196 => ((e_number.f k t148 t193).bind fun t197 => (if t197.length < 140737488355328 then (e_encode.l4 k (t197 ++ [(t196) % 256]) t193 t196 ([] : List Int) l1 (l1.length : Int) 0) else (none))))))) else (e_encode.l5 k t148 0 l1 (l1.length : Int) 0))))))
theorem e_encode.mono_l : ∀ k, (∀ y0 y1 y2 y3, LeO (e_encode.l0 k y0 y1 y2 y3) (e_encode.l0 (k + 1) y0 y1 y2 y3)) ∧ (∀ y0 y1 y2, LeO (e_encode.l1 k y0 y1 y2) (e_encode.l1 (k + 1) y0 y1 y2)) ∧ (∀ y0 y1 y2 y3, LeO (e_encode.l2 k y0 y1 y2 y3) (e_encode.l2 (k + 1) y0 y1 y2 y3)) ∧ (∀ y0 y1 y2 y3, LeO (e_encode.l3 k y0 y1 y2 y3) (e_encode.l3 (k + 1) y0 y1 y2 y3)) ∧ (∀ y0 y1 y2 y3 y4 y5 y6, LeO (e_encode.l4 k y0 y1 y2 y3 y4 y5 y6) (e_encode.l4 (k + 1) y0 y1 y2 y3 y4 y5 y6)) ∧ (∀ y0 y1 y2 y3 y4, LeO (e_encode.l5 k y0 y1 y2 y3 y4) (e_encode.l5 (k + 1) y0 y1 y2 y3 y4))
 | 0 => ⟨fun _ _ _ _ r h => by simp [e_encode.l0] at h, fun _ _ _ r h => by simp [e_encode.l1] at h, fun _ _ _ _ r h => by simp [e_encode.l2] at h, fun _ _ _ _ r h => by simp [e_encode.l3] at h, fun _ _ _ _ _ _ _ r h => by simp [e_encode.l4] at h, fun _ _ _ _ _ r h => by simp [e_encode.l5] at h⟩
 | k + 1 => by
  obtain ⟨ih0, ih1, ih2, ih3, ih4, ih5⟩ := e_encode.mono_l k
  refine ⟨?_, ?_, ?_, ?_, ?_, ?_⟩ <;> intros
  all_goals (first | unfold e_encode.l0 | unfold e_encode.l1 | unfold e_encode.l2 | unfold e_encode.l3 | unfold e_encode.l4 | unfold e_encode.l5)
  all_goals
   repeat' first
   | (with_reducible exact ih0 _ _ _ _)
   | (with_reducible exact ih1 _ _ _)
   | (with_reducible exact ih2 _ _ _ _)
   | (with_reducible exact ih3 _ _ _ _)
   | (with_reducible exact ih4 _ _ _ _ _ _ _)
   | (with_reducible exact ih5 _ _ _ _ _)
   | (with_reducible exact e_count.mono _ _ _)
   | (with_reducible exact e_number.mono _ _ _)
   | (with_reducible exact e_packed.mono _ _ _ _)
   | (with_reducible exact LeO.refl _)
   | (with_reducible refine LeO.ite ?_ ?_)
   | (with_reducible refine LeO.bind ?_ (fun _ => ?_))
theorem e_encode.mono : ∀ a0 a1 k, LeO (e_encode.f k a0 a1) (e_encode.f (k + 1) a0 a1) := by
 intro a0 a1 k
 obtain ⟨ih0, ih1, ih2, ih3, ih4, ih5⟩ := e_encode.mono_l k
 unfold e_encode.f
 repeat' first
  | (with_reducible exact ih0 _ _ _ _)
  | (with_reducible exact ih1 _ _ _)
  | (with_reducible exact ih3 _ _ _ _)
  | (with_reducible exact ih4 _ _ _ _ _ _ _)
  | (with_reducible exact ih5 _ _ _ _ _)
  | (with_reducible exact e_count.mono _ _ _)
  | (with_reducible exact e_distinct.mono _ _)
  | (with_reducible exact e_number.mono _ _ _)
  | (with_reducible exact LeO.refl _)
  | (with_reducible refine LeO.ite ?_ ?_)
  | (with_reducible refine LeO.bind ?_ (fun _ => ?_))
def e_encode.T22 : Bool × List (List Nat × List Nat) := (true, [([], []), ([], []), ([0, 1], [0, 1]), ([], []), ([3], [3]), ([2, 4], [2, 4]), ([5], [5]), ([6], [6]), ([6], [6]), ([6], [6]), ([8, 9, 6], [6, 8, 9]), ([7, 10, 6], [6, 7, 10]), ([11, 6], [6, 11]), ([6], [6]), ([6], [6]), ([13, 14, 6], [6, 13, 14]), ([15, 6], [6, 15]), ([12, 16, 6], [6, 12, 16]), ([6, 17], [6, 17])])
def e_encode.B22 : List Nat := [0, 0, 3, 0, 8, 31, 63, 127, 127, 127, 895, 2047, 4095, 127, 127, 24703, 57471, 131071, 262143]
theorem e_encode.tab22 : rtab .any (opsOf Try.f53 22) = e_encode.T22 := by kernel_rfl
theorem e_encode.bits22 : waitsOk e_encode.T22.2 e_encode.B22 = true := by kernel_rfl
def e_encode.T28 : Bool × List (List Nat × List Nat) := (true, [([], []), ([], []), ([1], [1]), ([2], [2]), ([0, 3], [0, 3]), ([], []), ([5], [5]), ([6], [6]), ([4, 7, 4], [4, 7]), ([8, 8, 0, 1, 2, 3, 4, 5, 6, 7, 8], [0, 8])])
def e_encode.B28 : List Nat := [0, 0, 2, 6, 15, 0, 32, 96, 255, 511]
theorem e_encode.tab28 : rtab .any (opsOf Try.f53 28) = e_encode.T28 := by kernel_rfl
theorem e_encode.bits28 : waitsOk e_encode.T28.2 e_encode.B28 = true := by kernel_rfl
def e_encode.T32 : Bool × List (List Nat × List Nat) := (true, [([], []), ([], []), ([], []), ([1, 2], [1, 2]), ([3], [3]), ([], []), ([], []), ([6], [6]), ([5, 7], [5, 7]), ([8], [8]), ([4, 9], [4, 9]), ([10], [10]), ([0, 11], [0, 11]), ([12, 12, 0, 1, 2, 3, 4, 5, 6, 7, 8, 9, 10, 11, 12], [0, 12])])
def e_encode.B32 : List Nat := [0, 0, 0, 6, 14, 0, 0, 64, 224, 480, 1022, 2046, 4095, 8191]
theorem e_encode.tab32 : rtab .any (opsOf Try.f53 32) = e_encode.T32 := by kernel_rfl
theorem e_encode.bits32 : waitsOk e_encode.T32.2 e_encode.B32 = true := by kernel_rfl
set_option maxHeartbeats 8000000 in
set_option maxRecDepth 100000 in
theorem e_encode.calls (k : Nat) (a0 : Int) (A1 : Option Addr) (c1 : Nat) (l1 : List Int) (r : List Int) (w : World) (hr1 : Kd.C (Kd.int .i64) w A1 l1.length l1) (hc1 : l1.length ≤ c1) (h : e_encode.f k a0 l1 = some r) :
 Calls Try.prog 53 #[.int .i64 a0, .slice A1 l1.length c1] w fun e w' => ∃ v0_ : Value, e = .returned (v0_) ∧ Kd.R (Kd.int .u8) 5 w' w.heap.size (fun _ => True) v0_ r ∧ Below w.heap.size w w' := by
 have HR1 := Ak hr1
 have HC1 := Ak hc1
 clear hr1 hc1
 have HB := Ak (Below.refl w.heap.size w)
 have H : ((e_count.f k (([(a0) % 256] : List Int)) (IntKind.u64.wrap ((l1.length : Int)))).bind fun t148 => (if (l1.length : Int) = 0 then (some t148) else (if a0 = 1 then (e_encode.l0 k t148 l1 (l1.length : Int) 0) else (if a0 = 2 then (e_encode.l1 k l1 t148 0) else (if a0 = 3 then ((e_distinct.f k l1).bind fun bt171 => ((e_count.f k t148 (IntKind.u64.wrap ((bt171.1.length : Int)))).bind fun t177 => (if 0 < (bt171.1.length : Int) then ((e_number.f k t177 (rd bt171.1 0)).bind fun t181 => (e_encode.l3 k t181 bt171.1 bt171.2 1)) else (none)))) else (if a0 = 4 then ((s_Min.f l1).bind fun t193 => ((s_Max.f l1).bind fun t194 => ((s_Min.f l1).bind fun t195 => ((e_widthOf.f (wrap64 (t194 - t195))).bind fun t196 => ((e_number.f k t148 t193).bind fun t197 => (if t197.length < 140737488355328 then (e_encode.l4 k (t197 ++ [(t196) % 256]) t193 t196 ([] : List Int) l1 (l1.length : Int) 0) else (none))))))) else (e_encode.l5 k t148 0 l1 (l1.length : Int) 0))))))) = some r := h
 clear h
 obtain ⟨y145, hy145⟩ : ∃ y_ : List Int, y_ = (([(a0) % 256] : List Int)) := ⟨_, rfl⟩
 replace H : ((e_count.f k y145 (IntKind.u64.wrap ((l1.length : Int)))).bind fun t148 => (if (l1.length : Int) = 0 then (some t148) else (if a0 = 1 then (e_encode.l0 k t148 l1 (l1.length : Int) 0) else (if a0 = 2 then (e_encode.l1 k l1 t148 0) else (if a0 = 3 then ((e_distinct.f k l1).bind fun bt171 => ((e_count.f k t148 (IntKind.u64.wrap ((bt171.1.length : Int)))).bind fun t177 => (if 0 < (bt171.1.length : Int) then ((e_number.f k t177 (rd bt171.1 0)).bind fun t181 => (e_encode.l3 k t181 bt171.1 bt171.2 1)) else (none)))) else (if a0 = 4 then ((s_Min.f l1).bind fun t193 => ((s_Max.f l1).bind fun t194 => ((s_Min.f l1).bind fun t195 => ((e_widthOf.f (wrap64 (t194 - t195))).bind fun t196 => ((e_number.f k t148 t193).bind fun t197 => (if t197.length < 140737488355328 then (e_encode.l4 k (t197 ++ [(t196) % 256]) t193 t196 ([] : List Int) l1 (l1.length : Int) 0) else (none))))))) else (e_encode.l5 k t148 0 l1 (l1.length : Int) 0))))))) = some r := by (rw [hy145]; with_reducible exact H)
 have Ny145 := Ak hy145
 clear hy145
 replace H := Option.bind_eq_some_iff.mp H
 obtain ⟨t148, A30, H⟩ := H
 replace H : (if (l1.length : Int) = 0 then (some t148) else (if a0 = 1 then (e_encode.l0 k t148 l1 (l1.length : Int) 0) else (if a0 = 2 then (e_encode.l1 k l1 t148 0) else (if a0 = 3 then ((e_distinct.f k l1).bind fun bt171 => ((e_count.f k t148 (IntKind.u64.wrap ((bt171.1.length : Int)))).bind fun t177 => (if 0 < (bt171.1.length : Int) then ((e_number.f k t177 (rd bt171.1 0)).bind fun t181 => (e_encode.l3 k t181 bt171.1 bt171.2 1)) else (none)))) else (if a0 = 4 then ((s_Min.f l1).bind fun t193 => ((s_Max.f l1).bind fun t194 => ((s_Min.f l1).bind fun t195 => ((e_widthOf.f (wrap64 (t194 - t195))).bind fun t196 => ((e_number.f k t148 t193).bind fun t197 => (if t197.length < 140737488355328 then (e_encode.l4 k (t197 ++ [(t196) % 256]) t193 t196 ([] : List Int) l1 (l1.length : Int) 0) else (none))))))) else (e_encode.l5 k t148 0 l1 (l1.length : Int) 0)))))) = some r := H
 have A3 := Ak A30
 clear A30
 by_cases c4 : (l1.length : Int) = 0
 ·rw [if_pos c4] at H
  have c4b0 : ((l1.length : Int) == 0) = true := beq_iff_eq.mpr c4
  have c4b1 : ((l1.length : Int) != 0) = false := bne_eq_false_iff_eq.mpr c4
  clear c4
  obtain rfl := Option.some.inj H
  go_enter Try.func53, Try.ntmps53
  go_wp2_with (first | ((with_reducible refine gate_dst (N := 23) rfl ?_); refine Kd.R_lit (Kd.int .u8) _ 5 ?hg (N := 23) ?hd (xs := ([(a0) % 256] : List Int)) (inner := [.int .u8 ((a0) % 256)]) (ok := fun _ => True) (okp := fun _ => True) ?hr ?hp (fun _ hk => hk) trivial (Below.refl _ _) (Nat.le_refl _) (by simp) ?_; (case hd => rfl); (case hg => rfl); (case hr => (go_simp; done)); (case hp => exact (Reps.one (show Kd.M (Kd.int .u8) _ _ _ ((a0) % 256) [.int .u8 ((a0) % 256)] from rfl) (Reps.none _ _))); intro v146 w5 ho6 hb hg_ hnew_; clear hg_ hnew_; (rw [← Ny145.out] at ho6); have n0_ := Ak (Kd.R_lower ho6 (below_size (by exact HB.out))); have n1_ := Ak (below_step (by exact HB.out) hb); clear HB; have HO147 := n0_; have HB := n1_; clear n0_ n1_ hb ho6; obtain ⟨Ao7, co7, eo7⟩ := Kd.R_slice HO147.out; subst eo7) | ((with_reducible refine gate_callee (f := 74) rfl ?_); refine goesL_ (some 27) rfl rfl Try.func74 (by kernel_rfl) rfl #[.slice Ao7 y145.length co7, .int .u64 (IntKind.u64.wrap ((l1.length : Int)))] rfl (by (try simp only [lm]); rfl) ?_; (with_reducible refine (e_count.calls k (fun k_ => some k_ = (.slice Ao7 y145.length co7 : Value).ownBlock) (.slice Ao7 y145.length co7) y145 (IntKind.u64.wrap ((l1.length : Int))) t148 w _ ?side1 ?side2 A3.out).mono ?_); (case side1 => exact HB.out); (case side2 => exact Kd.R_tight rfl HO147.out); rintro e w8 ⟨v149, rfl, ho0, hb, hkp⟩; refine ⟨_, rfl, ?_⟩; have n0_ := Ak (Kd.R_mono (ok' := fun k_ => True) ho0 (fun k_ hk_ => trivial)); have n1_ := Ak (hb); clear HB HO147; have HO150 := n0_; have HB := n1_; clear n0_ n1_; (try clear hb); (try clear hkp); (try clear ho0)))
  go_ret
  exact ⟨_, by rfl, by exact HO150.out, by exact HB.out⟩
 ·rw [if_neg c4] at H
  have c4b0 : ((l1.length : Int) == 0) = false := beq_eq_false_iff_ne.mpr c4
  have c4b1 : ((l1.length : Int) != 0) = true := bne_iff_ne.mpr c4
  have c4b2 : ¬ (l1 = []) := fun h_ => c4 (by rw [h_]; rfl)
  by_cases c9 : a0 = 1
  ·rw [if_pos c9] at H
   have c9b0 : (a0 == 1) = true := beq_iff_eq.mpr c9
   have c9b1 : (a0 != 1) = false := bne_eq_false_iff_eq.mpr c9
   clear c9
   have H' := Ak H
   clear H
   go_enter Try.func53, Try.ntmps53
   go_wp2_with (first | ((with_reducible refine gate_dst (N := 23) rfl ?_); refine Kd.R_lit (Kd.int .u8) _ 5 ?hg (N := 23) ?hd (xs := ([(a0) % 256] : List Int)) (inner := [.int .u8 ((a0) % 256)]) (ok := fun _ => True) (okp := fun _ => True) ?hr ?hp (fun _ hk => hk) trivial (Below.refl _ _) (Nat.le_refl _) (by simp) ?_; (case hd => rfl); (case hg => rfl); (case hr => (go_simp; done)); (case hp => exact (Reps.one (show Kd.M (Kd.int .u8) _ _ _ ((a0) % 256) [.int .u8 ((a0) % 256)] from rfl) (Reps.none _ _))); intro v146 w10 ho11 hb hg_ hnew_; clear hg_ hnew_; (rw [← Ny145.out] at ho11); have n0_ := Ak (Kd.R_lower ho11 (below_size (by exact HB.out))); have n1_ := Ak (below_step (by exact HB.out) hb); clear HB; have HO147 := n0_; have HB := n1_; clear n0_ n1_ hb ho11; obtain ⟨Ao12, co12, eo12⟩ := Kd.R_slice HO147.out; subst eo12) | ((with_reducible refine gate_callee (f := 74) rfl ?_); refine goesL_ (some 27) rfl rfl Try.func74 (by kernel_rfl) rfl #[.slice Ao12 y145.length co12, .int .u64 (IntKind.u64.wrap ((l1.length : Int)))] rfl (by (try simp only [lm]); rfl) ?_; (with_reducible refine (e_count.calls k (fun k_ => some k_ = (.slice Ao12 y145.length co12 : Value).ownBlock) (.slice Ao12 y145.length co12) y145 (IntKind.u64.wrap ((l1.length : Int))) t148 w _ ?side1 ?side2 A3.out).mono ?_); (case side1 => exact HB.out); (case side2 => exact Kd.R_tight rfl HO147.out); rintro e w13 ⟨v149, rfl, ho0, hb, hkp⟩; refine ⟨_, rfl, ?_⟩; have n0_ := Ak (Kd.R_mono (ok' := fun k_ => True) ho0 (fun k_ hk_ => trivial)); have n1_ := Ak (hb); clear HB HO147; have HO150 := n0_; have HB := n1_; clear n0_ n1_; (try clear hb); (try clear hkp); (try clear ho0)))
   go_loopg [5, 50] k (fun kq v5 v50 w' => ∃ (x5_1 : List Int) (x50_1 : Int), v50 = .int .i64 x50_1 ∧ Aside0 (e_encode.l0 kq x5_1 l1 (l1.length : Int) x50_1 = some r) ∧ Aside0 (kq ≤ k) ∧ Aside0 (Kd.R (Kd.int .u8) 5 w' w.heap.size (fun _ => True) v5 x5_1) ∧ Aside0 (Below w.heap.size w w'))
   case atStart => exact ⟨(t148), (0), (by rfl), H', ⟨Nat.le_refl _⟩, ⟨by exact HO150.out⟩, ⟨by exact HB.out⟩⟩
   case round =>
    clear H'
    try clear c4
    try clear c4b0
    try clear c4b1
    try clear c4b2
    try clear c9b0
    try clear c9b1
    obtain ⟨x5_1, x50_1, rfl, HA, HK1, HO_5, HB⟩ := hrel
    cases gk with
    | zero => exact absurd HA.out (by simp [e_encode.l0])
    | succ k1 =>
     have H := HA.out
     clear HA
     simp only [e_encode.l0] at H
     by_cases c14 : x50_1 < (l1.length : Int)
     ·rw [if_pos c14] at H
      have c14b0 : decide (x50_1 < (l1.length : Int)) = true := decide_eq_true c14
      clear c14
      by_cases c15 : 0 ≤ x50_1
      ·rw [if_pos c15] at H
       have c15b0 : decide (0 ≤ x50_1) = true := decide_eq_true c15
       clear c15
       by_cases c16 : x50_1 < (l1.length : Int)
       ·rw [if_pos c16] at H
        have c16b0 : decide (x50_1 < (l1.length : Int)) = true := decide_eq_true c16
        clear c16
        replace H := Option.bind_eq_some_iff.mp H
        obtain ⟨t152, A170, H⟩ := H
        replace H : (e_encode.l0 k1 t152 l1 (l1.length : Int) (wrap64 (x50_1 + 1))) = some r := H
        have A17 := Ak A170
        clear A170
        have H' := Ak H
        clear H
        have p151 : 0 ≤ (x50_1 : Int) := of_decide_eq_true (by (with_reducible assumption))
        have q151 : x50_1 < (l1.length : Int) := of_decide_eq_true (by (with_reducible assumption))
        obtain ⟨ad151, e151, hx151_0⟩ := Kd.at_int HR1.out x50_1 p151 q151
        cases e151
        replace hx151_0 := (HB.out.cell (World.block_lt_of_cell? w _ hx151_0)).trans hx151_0
        replace p151 := eq_true p151
        replace q151 := eq_true q151
        obtain ⟨Ao18, co18, eo18⟩ := Kd.R_slice HO_5.out
        subst eo18
        go_wp2_with (first | ((with_reducible refine gate_callee (f := 75) rfl ?_); refine goesL_ (some 56) rfl rfl Try.func75 (by kernel_rfl) rfl #[.slice Ao18 x5_1.length co18, .int .i64 (rd l1 x50_1)] rfl (by (try simp only [lm]); rfl) ?_; (with_reducible refine (e_number.calls k1 (fun k_ => some k_ = (.slice Ao18 x5_1.length co18 : Value).ownBlock) (.slice Ao18 x5_1.length co18) x5_1 (rd l1 x50_1) t152 w _ ?side1 ?side2 A17.out).mono ?_); (case side1 => exact HB.out); (case side2 => exact Kd.R_tight rfl HO_5.out); rintro e w19 ⟨v153, rfl, ho0, hb, hkp⟩; refine ⟨_, rfl, ?_⟩; have n0_ := Ak (Kd.R_mono (ok' := fun k_ => True) ho0 (fun k_ hk_ => trivial)); have n1_ := Ak (hb); clear HB HO_5; have HO154 := n0_; have HB := n1_; clear n0_ n1_; (try clear hb); (try clear hkp); (try clear ho0)))
        go_roundg k1
        case measure => have := HK1.out; omega
        case rel => exact ⟨(t152), (wrap64 (x50_1 + 1)), (by rfl), H', ⟨by have := HK1.out; omega⟩, ⟨by exact HO154.out⟩, ⟨by exact HB.out⟩⟩
       ·rw [if_neg c16] at H
        exact absurd H (by simp)
      ·rw [if_neg c15] at H
       exact absurd H (by simp)
     ·rw [if_neg c14] at H
      have c14b0 : decide (x50_1 < (l1.length : Int)) = false := decide_eq_false c14
      clear c14
      obtain rfl := Option.some.inj H
      go_wp2
      go_ret
      exact ⟨_, by rfl, by exact HO_5.out, by exact HB.out⟩
  ·rw [if_neg c9] at H
   have c9b0 : (a0 == 1) = false := beq_eq_false_iff_ne.mpr c9
   have c9b1 : (a0 != 1) = true := bne_iff_ne.mpr c9
   by_cases c20 : a0 = 2
   ·rw [if_pos c20] at H
    have c20b0 : (a0 == 2) = true := beq_iff_eq.mpr c20
    have c20b1 : (a0 != 2) = false := bne_eq_false_iff_eq.mpr c20
    clear c20
    have H' := Ak H
    clear H
    go_enter Try.func53, Try.ntmps53
    go_wp2_with (first | ((with_reducible refine gate_dst (N := 23) rfl ?_); refine Kd.R_lit (Kd.int .u8) _ 5 ?hg (N := 23) ?hd (xs := ([(a0) % 256] : List Int)) (inner := [.int .u8 ((a0) % 256)]) (ok := fun _ => True) (okp := fun _ => True) ?hr ?hp (fun _ hk => hk) trivial (Below.refl _ _) (Nat.le_refl _) (by simp) ?_; (case hd => rfl); (case hg => rfl); (case hr => (go_simp; done)); (case hp => exact (Reps.one (show Kd.M (Kd.int .u8) _ _ _ ((a0) % 256) [.int .u8 ((a0) % 256)] from rfl) (Reps.none _ _))); intro v146 w21 ho22 hb hg_ hnew_; clear hg_ hnew_; (rw [← Ny145.out] at ho22); have n0_ := Ak (Kd.R_lower ho22 (below_size (by exact HB.out))); have n1_ := Ak (below_step (by exact HB.out) hb); clear HB; have HO147 := n0_; have HB := n1_; clear n0_ n1_ hb ho22; obtain ⟨Ao23, co23, eo23⟩ := Kd.R_slice HO147.out; subst eo23) | ((with_reducible refine gate_callee (f := 74) rfl ?_); refine goesL_ (some 27) rfl rfl Try.func74 (by kernel_rfl) rfl #[.slice Ao23 y145.length co23, .int .u64 (IntKind.u64.wrap ((l1.length : Int)))] rfl (by (try simp only [lm]); rfl) ?_; (with_reducible refine (e_count.calls k (fun k_ => some k_ = (.slice Ao23 y145.length co23 : Value).ownBlock) (.slice Ao23 y145.length co23) y145 (IntKind.u64.wrap ((l1.length : Int))) t148 w _ ?side1 ?side2 A3.out).mono ?_); (case side1 => exact HB.out); (case side2 => exact Kd.R_tight rfl HO147.out); rintro e w24 ⟨v149, rfl, ho0, hb, hkp⟩; refine ⟨_, rfl, ?_⟩; have n0_ := Ak (Kd.R_mono (ok' := fun k_ => True) ho0 (fun k_ hk_ => trivial)); have n1_ := Ak (hb); clear HB HO147; have HO150 := n0_; have HB := n1_; clear n0_ n1_; (try clear hb); (try clear hkp); (try clear ho0)))
    go_loopg [5, 8] k (fun kq v5 v8 w' => ∃ (x5_1 : List Int) (x8_1 : Int), v8 = .int .i64 x8_1 ∧ Aside0 (e_encode.l1 kq l1 x5_1 x8_1 = some r) ∧ Aside0 (kq ≤ k) ∧ Aside0 (Kd.R (Kd.int .u8) 5 w' w.heap.size (fun _ => True) v5 x5_1) ∧ Aside0 (Below w.heap.size w w'))
    case atStart => exact ⟨(t148), (0), (by rfl), H', ⟨Nat.le_refl _⟩, ⟨by exact HO150.out⟩, ⟨by exact HB.out⟩⟩
    case round =>
     clear H'
     try clear c4
     try clear c4b0
     try clear c4b1
     try clear c4b2
     try clear c9
     try clear c9b0
     try clear c9b1
     try clear c20b0
     try clear c20b1
     obtain ⟨x5_1, x8_1, rfl, HA, HK1, HO_5, HB⟩ := hrel
     cases gk with
     | zero => exact absurd HA.out (by simp [e_encode.l1])
     | succ k1 =>
      have H := HA.out
      clear HA
      simp only [e_encode.l1] at H
      by_cases c25 : x8_1 < (l1.length : Int)
      ·rw [if_pos c25] at H
       have c25b0 : decide (x8_1 < (l1.length : Int)) = true := decide_eq_true c25
       clear c25
       have H' := Ak H
       clear H
       go_wp2
       go_loopg [9] k1 (fun kq v9 w' => ∃ (x9_2 : Int), v9 = .int .i64 x9_2 ∧ Aside0 (e_encode.l2 kq l1 x5_1 x8_1 x9_2 = some r) ∧ Aside0 (kq ≤ k1) ∧ Aside0 (Kd.R (Kd.int .u8) 5 w' w.heap.size (fun _ => True) u5 x5_1) ∧ Aside0 (Below w.heap.size w w'))
       case atStart => exact ⟨(1), (by rfl), H', ⟨Nat.le_refl _⟩, ⟨by exact HO_5.out⟩, ⟨by exact HB.out⟩⟩
       case round =>
        clear H'
        try clear c25b0
        obtain ⟨x9_2, rfl, HA, HK2, HO_5, HB⟩ := hrel
        cases gk with
        | zero => exact absurd HA.out (by simp [e_encode.l2])
        | succ k2 =>
         have H := HA.out
         clear HA
         simp only [e_encode.l2] at H
         by_cases c26 : (wrap64 (x8_1 + x9_2)) < (l1.length : Int)
         ·rw [if_pos c26] at H
          have c26b0 : decide ((wrap64 (x8_1 + x9_2)) < (l1.length : Int)) = true := decide_eq_true c26
          clear c26
          obtain ⟨ji27, hji27⟩ : ∃ j_ : Int, (wrap64 (x8_1 + x9_2)) = j_ := ⟨_, rfl⟩
          replace H : (if 0 ≤ (ji27) then (if 0 ≤ x8_1 then (if x8_1 < (l1.length : Int) then (if (rd l1 (ji27)) = (rd l1 x8_1) then (e_encode.l2 k2 l1 x5_1 x8_1 (wrap64 (x9_2 + 1))) else ((e_number.f k2 x5_1 (rd l1 x8_1)).bind fun t158 => ((e_count.f k2 t158 (IntKind.u64.wrap (x9_2))).bind fun t161 => (e_encode.l1 k2 l1 t161 ji27)))) else (none)) else (none)) else (none)) = some r := by (rw [hji27] at H; exact H)
          (try rw [hji27] at c26b0)
          have hji27w : (IntKind.i64.wrap (x8_1 + x9_2)) = ji27 := (i64_w _).trans hji27
          by_cases c28 : 0 ≤ (ji27)
          ·rw [if_pos c28] at H
           have c28b0 : decide (0 ≤ (ji27)) = true := decide_eq_true c28
           clear c28
           by_cases c29 : 0 ≤ x8_1
           ·rw [if_pos c29] at H
            have c29b0 : decide (0 ≤ x8_1) = true := decide_eq_true c29
            clear c29
            by_cases c30 : x8_1 < (l1.length : Int)
            ·rw [if_pos c30] at H
             have c30b0 : decide (x8_1 < (l1.length : Int)) = true := decide_eq_true c30
             clear c30
             by_cases c31 : (rd l1 (ji27)) = (rd l1 x8_1)
             ·rw [if_pos c31] at H
              have c31b0 : ((rd l1 (ji27)) == (rd l1 x8_1)) = true := beq_iff_eq.mpr c31
              have c31b1 : ((rd l1 (ji27)) != (rd l1 x8_1)) = false := bne_eq_false_iff_eq.mpr c31
              clear c31
              have H' := Ak H
              clear H
              try go_wp2
              have n0_ := Ak (Kd.R_drew HO_5.out)
              have n1_ := Ak (below_drew1 HB.out)
              clear HO_5 HB
              have HO_5 := n0_
              have HB := n1_
              clear n0_ n1_
              have p155 : 0 ≤ ((ji27) : Int) := of_decide_eq_true (by (with_reducible assumption))
              have q155 : (ji27) < (l1.length : Int) := of_decide_eq_true (by (with_reducible assumption))
              obtain ⟨ad155, e155, hx155_0⟩ := Kd.at_int HR1.out (ji27) p155 q155
              have hw155_0 := hx155_0
              cases e155
              replace hx155_0 := (HB.out.cell (World.block_lt_of_cell? w _ hx155_0)).trans hx155_0
              replace p155 := eq_true p155
              replace q155 := eq_true q155
              have p156 : 0 ≤ (x8_1 : Int) := of_decide_eq_true (by (with_reducible assumption))
              have q156 : x8_1 < (l1.length : Int) := of_decide_eq_true (by (with_reducible assumption))
              obtain ⟨ad156, e156, hx156_0⟩ := Kd.at_int HR1.out x8_1 p156 q156
              have hw156_0 := hx156_0
              obtain rfl : ad155 = ad156 := (by injection e156)
              replace hx156_0 := (HB.out.cell (World.block_lt_of_cell? w _ hx156_0)).trans hx156_0
              replace p156 := eq_true p156
              replace q156 := eq_true q156
              refine start_ (n := 19) (S := fun w' => w'.cell? (ad155.add ((ji27)).toNat) = some (.int .i64 (rd l1 (ji27))) ∧ w'.cell? (ad155.add (x8_1).toNat) = some (.int .i64 (rd l1 x8_1))) (ds := []) #[false, false, false, false, false, false, false, false, false, false, false, false, false, false, false, false, false, false, false] (by kernel_rfl) rfl rfl ⟨((HB.out.cell (World.block_lt_of_cell? w _ hw155_0)).trans hw155_0), ((HB.out.cell (World.block_lt_of_cell? w _ hw156_0)).trans hw156_0)⟩ (fun hHeld => ?_); refine with_tabW e_encode.tab22 e_encode.bits22 (fun HT_ HW_ => ?_)
              generalize wr.drew = w32 at HO_5 HB hx155_0 hx156_0 hHeld ⊢
              refine pure_ (i := 0) (N := some 64) (v := ?_) (a' := ?_) #[true, false, false, false, false, false, false, false, false, false, false, false, false, false, false, false, false, false, false] rfl rfl (any_of HT_.out (by kernel_rfl)) (fun _ _ _ h => h) (Or.inl ⟨by rfl, ?_⟩) ?_ ?_
              rotate_left
              ·intro w'
               go_simp
               with_reducible rfl
              rotate_left
              ·simp only [Act.put, List.setIfInBounds_toArray, List.set_cons_zero, List.set_cons_succ, i64_w, i32_w]
               rfl
              refine pure_ (i := 1) (N := some 65) (v := ?_) (a' := ?_) #[true, true, false, false, false, false, false, false, false, false, false, false, false, false, false, false, false, false, false] rfl rfl (any_of HT_.out (by kernel_rfl)) (fun _ _ _ h => h) (Or.inl ⟨by rfl, ?_⟩) ?_ ?_
              rotate_left
              ·intro w'
               go_simp
               with_reducible rfl
              rotate_left
              ·simp only [Act.put, List.setIfInBounds_toArray, List.set_cons_zero, List.set_cons_succ, i64_w, i32_w]
               rfl
              refine pure_ (i := 2) (N := some 66) (v := ?_) (a' := ?_) #[true, true, true, false, false, false, false, false, false, false, false, false, false, false, false, false, false, false, false] rfl rfl (any_of HT_.out (by kernel_rfl)) (fun _ _ _ h => h) (Or.inl ⟨by rfl, ?_⟩) ?_ ?_
              rotate_left
              ·intro w'
               go_simp
               with_reducible rfl
              rotate_left
              ·simp only [Act.put, List.setIfInBounds_toArray, List.set_cons_zero, List.set_cons_succ, i64_w, i32_w]
               rfl
              refine pure_ (i := 3) (N := some 67) (v := ?_) (a' := ?_) #[true, true, true, true, false, false, false, false, false, false, false, false, false, false, false, false, false, false, false] rfl rfl (any_of HT_.out (by kernel_rfl)) (fun _ _ _ h => h) (Or.inl ⟨by rfl, ?_⟩) ?_ ?_
              rotate_left
              ·intro w'
               go_simp
               with_reducible rfl
              rotate_left
              ·simp only [Act.put, List.setIfInBounds_toArray, List.set_cons_zero, List.set_cons_succ, i64_w, i32_w]
               rfl
              refine pure_ (i := 4) (N := some 68) (v := ?_) (a' := ?_) #[true, true, true, true, true, false, false, false, false, false, false, false, false, false, false, false, false, false, false] rfl rfl (any_of HT_.out (by kernel_rfl)) (fun _ _ _ h => h) (Or.inl ⟨by rfl, ?_⟩) ?_ ?_
              rotate_left
              ·intro w'
               go_simp
               with_reducible rfl
              rotate_left
              ·simp only [Act.put, List.setIfInBounds_toArray, List.set_cons_zero, List.set_cons_succ, i64_w, i32_w]
               rfl
              refine pure_ (i := 5) (N := some 69) (v := ?_) (a' := ?_) #[true, true, true, true, true, true, false, false, false, false, false, false, false, false, false, false, false, false, false] rfl rfl (any_of HT_.out (by kernel_rfl)) (fun _ _ _ h => h) (Or.inl ⟨by rfl, ?_⟩) ?_ ?_
              rotate_left
              ·intro w'
               go_simp
               with_reducible rfl
              rotate_left
              ·simp only [Act.put, List.setIfInBounds_toArray, List.set_cons_zero, List.set_cons_succ, i64_w, i32_w]
               rfl
              refine pure_ (i := 6) (N := some 70) (v := ?_) (a' := ?_) #[true, true, true, true, true, true, true, false, false, false, false, false, false, false, false, false, false, false, false] rfl rfl (any_of HT_.out (by kernel_rfl)) (fun _ _ _ h => h) (Or.inl ⟨by rfl, ?_⟩) ?_ ?_
              rotate_left
              ·intro w'
               go_simp
               with_reducible rfl
              rotate_left
              ·simp only [Act.put, List.setIfInBounds_toArray, List.set_cons_zero, List.set_cons_succ, i64_w, i32_w]
               rfl
              refine pure_ (i := 7) (N := some 71) (v := ?_) (a' := ?_) #[true, true, true, true, true, true, true, true, false, false, false, false, false, false, false, false, false, false, false] rfl rfl (any_of HT_.out (by kernel_rfl)) (fun _ _ _ h => h) (Or.inl ⟨by rfl, ?_⟩) ?_ ?_
              rotate_left
              ·intro w'
               go_simp
               with_reducible rfl
              rotate_left
              ·simp only [Act.put, List.setIfInBounds_toArray, List.set_cons_zero, List.set_cons_succ, i64_w, i32_w]
               rfl
              refine pure_ (i := 8) (N := some 72) (v := ?_) (a' := ?_) #[true, true, true, true, true, true, true, true, true, false, false, false, false, false, false, false, false, false, false] rfl rfl (any_of HT_.out (by kernel_rfl)) (fun _ _ _ h => h) (Or.inl ⟨by rfl, ?_⟩) ?_ ?_
              rotate_left
              ·intro w'
               go_simp
               with_reducible rfl
              rotate_left
              ·simp only [Act.put, List.setIfInBounds_toArray, List.set_cons_zero, List.set_cons_succ, i64_w, i32_w]
               rfl
              refine pure_ (i := 9) (N := some 73) (v := ?_) (a' := ?_) #[true, true, true, true, true, true, true, true, true, true, false, false, false, false, false, false, false, false, false] rfl rfl (any_of HT_.out (by kernel_rfl)) (fun _ _ _ h => h) (Or.inl ⟨by rfl, ?_⟩) ?_ ?_
              rotate_left
              ·intro w'
               go_simp
               with_reducible rfl
              rotate_left
              ·simp only [Act.put, List.setIfInBounds_toArray, List.set_cons_zero, List.set_cons_succ, i64_w, i32_w]
               rfl
              refine pure_ (i := 10) (N := some 74) (v := ?_) (a' := ?_) #[true, true, true, true, true, true, true, true, true, true, true, false, false, false, false, false, false, false, false] rfl rfl (any_of HT_.out (by kernel_rfl)) (fun _ _ _ h => h) (Or.inl ⟨by rfl, ?_⟩) ?_ ?_
              rotate_left
              ·intro w'
               go_simp
               with_reducible rfl
              rotate_left
              ·simp only [Act.put, List.setIfInBounds_toArray, List.set_cons_zero, List.set_cons_succ, i64_w, i32_w]
               rfl
              refine pure_ (i := 11) (N := some 75) (v := ?_) (a' := ?_) #[true, true, true, true, true, true, true, true, true, true, true, true, false, false, false, false, false, false, false] rfl rfl (any_of HT_.out (by kernel_rfl)) (fun _ _ _ h => h) (Or.inl ⟨by rfl, ?_⟩) ?_ ?_
              rotate_left
              ·intro w'
               go_simp
               with_reducible rfl
              rotate_left
              ·simp only [Act.put, List.setIfInBounds_toArray, List.set_cons_zero, List.set_cons_succ, i64_w, i32_w]
               rfl
              refine pure_ (i := 13) (N := some 77) (v := ?_) (a' := ?_) #[true, true, true, true, true, true, true, true, true, true, true, true, false, true, false, false, false, false, false] rfl rfl (any_of HT_.out (by kernel_rfl)) (fun _ _ _ h => h) (Or.inl ⟨by rfl, ?_⟩) ?_ ?_
              rotate_left
              ·intro w'
               go_simp
               with_reducible rfl
              rotate_left
              ·simp only [Act.put, List.setIfInBounds_toArray, List.set_cons_zero, List.set_cons_succ, i64_w, i32_w]
               rfl
              refine pure_ (i := 14) (N := some 78) (v := ?_) (a' := ?_) #[true, true, true, true, true, true, true, true, true, true, true, true, false, true, true, false, false, false, false] rfl rfl (any_of HT_.out (by kernel_rfl)) (fun _ _ _ h => h) (Or.inl ⟨by rfl, ?_⟩) ?_ ?_
              rotate_left
              ·intro w'
               go_simp
               with_reducible rfl
              rotate_left
              ·simp only [Act.put, List.setIfInBounds_toArray, List.set_cons_zero, List.set_cons_succ, i64_w, i32_w]
               rfl
              refine pure_ (i := 15) (N := some 79) (v := ?_) (a' := ?_) #[true, true, true, true, true, true, true, true, true, true, true, true, false, true, true, true, false, false, false] rfl rfl (any_of HT_.out (by kernel_rfl)) (fun _ _ _ h => h) (Or.inl ⟨by rfl, ?_⟩) ?_ ?_
              rotate_left
              ·intro w'
               go_simp
               with_reducible rfl
              rotate_left
              ·simp only [Act.put, List.setIfInBounds_toArray, List.set_cons_zero, List.set_cons_succ, i64_w, i32_w]
               rfl
              refine take_ (i := 12) (N := some 76) (v := ?_) (a' := ?_) #[true, true, true, true, true, true, true, true, true, true, true, true, true, true, true, true, false, false, false] rfl rfl (take_ofW HT_.out HW_.out (by kernel_rfl)) (fun _ _ _ h => h) (Or.inl ⟨by rfl, ?_⟩) hHeld ?_ ?_
              rotate_left
              ·rintro w' ⟨s0, s1⟩
               go_simp
               with_reducible rfl
              rotate_left
              ·simp only [Act.put, List.setIfInBounds_toArray, List.set_cons_zero, List.set_cons_succ, i64_w, i32_w]
               rfl
              refine take_ (i := 16) (N := some 80) (v := ?_) (a' := ?_) #[true, true, true, true, true, true, true, true, true, true, true, true, true, true, true, true, true, false, false] rfl rfl (take_ofW HT_.out HW_.out (by kernel_rfl)) (fun _ _ _ h => h) (Or.inl ⟨by rfl, ?_⟩) hHeld ?_ ?_
              rotate_left
              ·rintro w' ⟨s0, s1⟩
               go_simp
               with_reducible rfl
              rotate_left
              ·simp only [Act.put, List.setIfInBounds_toArray, List.set_cons_zero, List.set_cons_succ, i64_w, i32_w]
               rfl
              refine pure_ (i := 17) (N := some 81) (v := ?_) (a' := ?_) #[true, true, true, true, true, true, true, true, true, true, true, true, true, true, true, true, true, true, false] rfl rfl (any_of HT_.out (by kernel_rfl)) (fun _ _ _ h => h) (Or.inl ⟨by rfl, ?_⟩) ?_ ?_
              rotate_left
              ·intro w'
               go_simp
               with_reducible rfl
              rotate_left
              ·simp only [Act.put, List.setIfInBounds_toArray, List.set_cons_zero, List.set_cons_succ, i64_w, i32_w]
               rfl
              refine pure_ (i := 18) (N := some 82) (v := ?_) (a' := ?_) #[true, true, true, true, true, true, true, true, true, true, true, true, true, true, true, true, true, true, true] rfl rfl (any_of HT_.out (by kernel_rfl)) (fun _ _ _ h => h) (Or.inl ⟨by rfl, ?_⟩) ?_ ?_
              rotate_left
              ·intro w'
               go_simp
               with_reducible rfl
              rotate_left
              ·simp only [Act.put, List.setIfInBounds_toArray, List.set_cons_zero, List.set_cons_succ, i64_w, i32_w]
               rfl
              refine done_ (done_of HT_.out (by kernel_rfl)) ?_
              try go_wp2
              go_roundg k2
              case measure => have := HK1.out; have := HK2.out; omega
              case rel => exact ⟨(wrap64 (x9_2 + 1)), (by rfl), H', ⟨by have := HK1.out; have := HK2.out; omega⟩, ⟨by exact HO_5.out⟩, ⟨by exact HB.out⟩⟩
             ·rw [if_neg c31] at H
              have c31b0 : ((rd l1 (ji27)) == (rd l1 x8_1)) = false := beq_eq_false_iff_ne.mpr c31
              have c31b1 : ((rd l1 (ji27)) != (rd l1 x8_1)) = true := bne_iff_ne.mpr c31
              replace H := Option.bind_eq_some_iff.mp H
              obtain ⟨t158, A330, H⟩ := H
              replace H : ((e_count.f k2 t158 (IntKind.u64.wrap (x9_2))).bind fun t161 => (e_encode.l1 k2 l1 t161 ji27)) = some r := H
              have A33 := Ak A330
              clear A330
              replace H := Option.bind_eq_some_iff.mp H
              obtain ⟨t161, A340, H⟩ := H
              replace H : (e_encode.l1 k2 l1 t161 ji27) = some r := H
              have A34 := Ak A340
              clear A340
              have H' := Ak H
              clear H
              try go_wp2
              have n0_ := Ak (Kd.R_drew HO_5.out)
              have n1_ := Ak (below_drew1 HB.out)
              clear HO_5 HB
              have HO_5 := n0_
              have HB := n1_
              clear n0_ n1_
              have p155 : 0 ≤ ((ji27) : Int) := of_decide_eq_true (by (with_reducible assumption))
              have q155 : (ji27) < (l1.length : Int) := of_decide_eq_true (by (with_reducible assumption))
              obtain ⟨ad155, e155, hx155_0⟩ := Kd.at_int HR1.out (ji27) p155 q155
              have hw155_0 := hx155_0
              cases e155
              replace hx155_0 := (HB.out.cell (World.block_lt_of_cell? w _ hx155_0)).trans hx155_0
              replace p155 := eq_true p155
              replace q155 := eq_true q155
              have p156 : 0 ≤ (x8_1 : Int) := of_decide_eq_true (by (with_reducible assumption))
              have q156 : x8_1 < (l1.length : Int) := of_decide_eq_true (by (with_reducible assumption))
              obtain ⟨ad156, e156, hx156_0⟩ := Kd.at_int HR1.out x8_1 p156 q156
              have hw156_0 := hx156_0
              obtain rfl : ad155 = ad156 := (by injection e156)
              replace hx156_0 := (HB.out.cell (World.block_lt_of_cell? w _ hx156_0)).trans hx156_0
              replace p156 := eq_true p156
              replace q156 := eq_true q156
              refine start_ (n := 19) (S := fun w' => w'.cell? (ad155.add ((ji27)).toNat) = some (.int .i64 (rd l1 (ji27))) ∧ w'.cell? (ad155.add (x8_1).toNat) = some (.int .i64 (rd l1 x8_1))) (ds := []) #[false, false, false, false, false, false, false, false, false, false, false, false, false, false, false, false, false, false, false] (by kernel_rfl) rfl rfl ⟨((HB.out.cell (World.block_lt_of_cell? w _ hw155_0)).trans hw155_0), ((HB.out.cell (World.block_lt_of_cell? w _ hw156_0)).trans hw156_0)⟩ (fun hHeld => ?_); refine with_tabW e_encode.tab22 e_encode.bits22 (fun HT_ HW_ => ?_)
              generalize wr.drew = w35 at HO_5 HB hx155_0 hx156_0 hHeld ⊢
              refine pure_ (i := 0) (N := some 64) (v := ?_) (a' := ?_) #[true, false, false, false, false, false, false, false, false, false, false, false, false, false, false, false, false, false, false] rfl rfl (any_of HT_.out (by kernel_rfl)) (fun _ _ _ h => h) (Or.inl ⟨by rfl, ?_⟩) ?_ ?_
              rotate_left
              ·intro w'
               go_simp
               with_reducible rfl
              rotate_left
              ·simp only [Act.put, List.setIfInBounds_toArray, List.set_cons_zero, List.set_cons_succ, i64_w, i32_w]
               rfl
              refine pure_ (i := 1) (N := some 65) (v := ?_) (a' := ?_) #[true, true, false, false, false, false, false, false, false, false, false, false, false, false, false, false, false, false, false] rfl rfl (any_of HT_.out (by kernel_rfl)) (fun _ _ _ h => h) (Or.inl ⟨by rfl, ?_⟩) ?_ ?_
              rotate_left
              ·intro w'
               go_simp
               with_reducible rfl
              rotate_left
              ·simp only [Act.put, List.setIfInBounds_toArray, List.set_cons_zero, List.set_cons_succ, i64_w, i32_w]
               rfl
              refine pure_ (i := 2) (N := some 66) (v := ?_) (a' := ?_) #[true, true, true, false, false, false, false, false, false, false, false, false, false, false, false, false, false, false, false] rfl rfl (any_of HT_.out (by kernel_rfl)) (fun _ _ _ h => h) (Or.inl ⟨by rfl, ?_⟩) ?_ ?_
              rotate_left
              ·intro w'
               go_simp
               with_reducible rfl
              rotate_left
              ·simp only [Act.put, List.setIfInBounds_toArray, List.set_cons_zero, List.set_cons_succ, i64_w, i32_w]
               rfl
              refine pure_ (i := 3) (N := some 67) (v := ?_) (a' := ?_) #[true, true, true, true, false, false, false, false, false, false, false, false, false, false, false, false, false, false, false] rfl rfl (any_of HT_.out (by kernel_rfl)) (fun _ _ _ h => h) (Or.inl ⟨by rfl, ?_⟩) ?_ ?_
              rotate_left
              ·intro w'
               go_simp
               with_reducible rfl
              rotate_left
              ·simp only [Act.put, List.setIfInBounds_toArray, List.set_cons_zero, List.set_cons_succ, i64_w, i32_w]
               rfl
              refine pure_ (i := 4) (N := some 68) (v := ?_) (a' := ?_) #[true, true, true, true, true, false, false, false, false, false, false, false, false, false, false, false, false, false, false] rfl rfl (any_of HT_.out (by kernel_rfl)) (fun _ _ _ h => h) (Or.inl ⟨by rfl, ?_⟩) ?_ ?_
              rotate_left
              ·intro w'
               go_simp
               with_reducible rfl
              rotate_left
              ·simp only [Act.put, List.setIfInBounds_toArray, List.set_cons_zero, List.set_cons_succ, i64_w, i32_w]
               rfl
              refine pure_ (i := 5) (N := some 69) (v := ?_) (a' := ?_) #[true, true, true, true, true, true, false, false, false, false, false, false, false, false, false, false, false, false, false] rfl rfl (any_of HT_.out (by kernel_rfl)) (fun _ _ _ h => h) (Or.inl ⟨by rfl, ?_⟩) ?_ ?_
              rotate_left
              ·intro w'
               go_simp
               with_reducible rfl
              rotate_left
              ·simp only [Act.put, List.setIfInBounds_toArray, List.set_cons_zero, List.set_cons_succ, i64_w, i32_w]
               rfl
              refine pure_ (i := 6) (N := some 70) (v := ?_) (a' := ?_) #[true, true, true, true, true, true, true, false, false, false, false, false, false, false, false, false, false, false, false] rfl rfl (any_of HT_.out (by kernel_rfl)) (fun _ _ _ h => h) (Or.inl ⟨by rfl, ?_⟩) ?_ ?_
              rotate_left
              ·intro w'
               go_simp
               with_reducible rfl
              rotate_left
              ·simp only [Act.put, List.setIfInBounds_toArray, List.set_cons_zero, List.set_cons_succ, i64_w, i32_w]
               rfl
              refine pure_ (i := 7) (N := some 71) (v := ?_) (a' := ?_) #[true, true, true, true, true, true, true, true, false, false, false, false, false, false, false, false, false, false, false] rfl rfl (any_of HT_.out (by kernel_rfl)) (fun _ _ _ h => h) (Or.inl ⟨by rfl, ?_⟩) ?_ ?_
              rotate_left
              ·intro w'
               go_simp
               with_reducible rfl
              rotate_left
              ·simp only [Act.put, List.setIfInBounds_toArray, List.set_cons_zero, List.set_cons_succ, i64_w, i32_w]
               rfl
              refine pure_ (i := 8) (N := some 72) (v := ?_) (a' := ?_) #[true, true, true, true, true, true, true, true, true, false, false, false, false, false, false, false, false, false, false] rfl rfl (any_of HT_.out (by kernel_rfl)) (fun _ _ _ h => h) (Or.inl ⟨by rfl, ?_⟩) ?_ ?_
              rotate_left
              ·intro w'
               go_simp
               with_reducible rfl
              rotate_left
              ·simp only [Act.put, List.setIfInBounds_toArray, List.set_cons_zero, List.set_cons_succ, i64_w, i32_w]
               rfl
              refine pure_ (i := 9) (N := some 73) (v := ?_) (a' := ?_) #[true, true, true, true, true, true, true, true, true, true, false, false, false, false, false, false, false, false, false] rfl rfl (any_of HT_.out (by kernel_rfl)) (fun _ _ _ h => h) (Or.inl ⟨by rfl, ?_⟩) ?_ ?_
              rotate_left
              ·intro w'
               go_simp
               with_reducible rfl
              rotate_left
              ·simp only [Act.put, List.setIfInBounds_toArray, List.set_cons_zero, List.set_cons_succ, i64_w, i32_w]
               rfl
              refine pure_ (i := 10) (N := some 74) (v := ?_) (a' := ?_) #[true, true, true, true, true, true, true, true, true, true, true, false, false, false, false, false, false, false, false] rfl rfl (any_of HT_.out (by kernel_rfl)) (fun _ _ _ h => h) (Or.inl ⟨by rfl, ?_⟩) ?_ ?_
              rotate_left
              ·intro w'
               go_simp
               with_reducible rfl
              rotate_left
              ·simp only [Act.put, List.setIfInBounds_toArray, List.set_cons_zero, List.set_cons_succ, i64_w, i32_w]
               rfl
              refine pure_ (i := 11) (N := some 75) (v := ?_) (a' := ?_) #[true, true, true, true, true, true, true, true, true, true, true, true, false, false, false, false, false, false, false] rfl rfl (any_of HT_.out (by kernel_rfl)) (fun _ _ _ h => h) (Or.inl ⟨by rfl, ?_⟩) ?_ ?_
              rotate_left
              ·intro w'
               go_simp
               with_reducible rfl
              rotate_left
              ·simp only [Act.put, List.setIfInBounds_toArray, List.set_cons_zero, List.set_cons_succ, i64_w, i32_w]
               rfl
              refine pure_ (i := 13) (N := some 77) (v := ?_) (a' := ?_) #[true, true, true, true, true, true, true, true, true, true, true, true, false, true, false, false, false, false, false] rfl rfl (any_of HT_.out (by kernel_rfl)) (fun _ _ _ h => h) (Or.inl ⟨by rfl, ?_⟩) ?_ ?_
              rotate_left
              ·intro w'
               go_simp
               with_reducible rfl
              rotate_left
              ·simp only [Act.put, List.setIfInBounds_toArray, List.set_cons_zero, List.set_cons_succ, i64_w, i32_w]
               rfl
              refine pure_ (i := 14) (N := some 78) (v := ?_) (a' := ?_) #[true, true, true, true, true, true, true, true, true, true, true, true, false, true, true, false, false, false, false] rfl rfl (any_of HT_.out (by kernel_rfl)) (fun _ _ _ h => h) (Or.inl ⟨by rfl, ?_⟩) ?_ ?_
              rotate_left
              ·intro w'
               go_simp
               with_reducible rfl
              rotate_left
              ·simp only [Act.put, List.setIfInBounds_toArray, List.set_cons_zero, List.set_cons_succ, i64_w, i32_w]
               rfl
              refine pure_ (i := 15) (N := some 79) (v := ?_) (a' := ?_) #[true, true, true, true, true, true, true, true, true, true, true, true, false, true, true, true, false, false, false] rfl rfl (any_of HT_.out (by kernel_rfl)) (fun _ _ _ h => h) (Or.inl ⟨by rfl, ?_⟩) ?_ ?_
              rotate_left
              ·intro w'
               go_simp
               with_reducible rfl
              rotate_left
              ·simp only [Act.put, List.setIfInBounds_toArray, List.set_cons_zero, List.set_cons_succ, i64_w, i32_w]
               rfl
              refine take_ (i := 12) (N := some 76) (v := ?_) (a' := ?_) #[true, true, true, true, true, true, true, true, true, true, true, true, true, true, true, true, false, false, false] rfl rfl (take_ofW HT_.out HW_.out (by kernel_rfl)) (fun _ _ _ h => h) (Or.inl ⟨by rfl, ?_⟩) hHeld ?_ ?_
              rotate_left
              ·rintro w' ⟨s0, s1⟩
               go_simp
               with_reducible rfl
              rotate_left
              ·simp only [Act.put, List.setIfInBounds_toArray, List.set_cons_zero, List.set_cons_succ, i64_w, i32_w]
               rfl
              refine take_ (i := 16) (N := some 80) (v := ?_) (a' := ?_) #[true, true, true, true, true, true, true, true, true, true, true, true, true, true, true, true, true, false, false] rfl rfl (take_ofW HT_.out HW_.out (by kernel_rfl)) (fun _ _ _ h => h) (Or.inl ⟨by rfl, ?_⟩) hHeld ?_ ?_
              rotate_left
              ·rintro w' ⟨s0, s1⟩
               go_simp
               with_reducible rfl
              rotate_left
              ·simp only [Act.put, List.setIfInBounds_toArray, List.set_cons_zero, List.set_cons_succ, i64_w, i32_w]
               rfl
              refine pure_ (i := 17) (N := some 81) (v := ?_) (a' := ?_) #[true, true, true, true, true, true, true, true, true, true, true, true, true, true, true, true, true, true, false] rfl rfl (any_of HT_.out (by kernel_rfl)) (fun _ _ _ h => h) (Or.inl ⟨by rfl, ?_⟩) ?_ ?_
              rotate_left
              ·intro w'
               go_simp
               with_reducible rfl
              rotate_left
              ·simp only [Act.put, List.setIfInBounds_toArray, List.set_cons_zero, List.set_cons_succ, i64_w, i32_w]
               rfl
              refine pure_ (i := 18) (N := some 82) (v := ?_) (a' := ?_) #[true, true, true, true, true, true, true, true, true, true, true, true, true, true, true, true, true, true, true] rfl rfl (any_of HT_.out (by kernel_rfl)) (fun _ _ _ h => h) (Or.inl ⟨by rfl, ?_⟩) ?_ ?_
              rotate_left
              ·intro w'
               go_simp
               with_reducible rfl
              rotate_left
              ·simp only [Act.put, List.setIfInBounds_toArray, List.set_cons_zero, List.set_cons_succ, i64_w, i32_w]
               rfl
              refine done_ (done_of HT_.out (by kernel_rfl)) ?_
              have p157 : 0 ≤ (x8_1 : Int) := of_decide_eq_true (by (with_reducible assumption))
              have q157 : x8_1 < (l1.length : Int) := of_decide_eq_true (by (with_reducible assumption))
              obtain ⟨ad157, e157, hx157_0⟩ := Kd.at_int HR1.out x8_1 p157 q157
              obtain rfl : ad155 = ad157 := (by injection e157)
              replace hx157_0 := (HB.out.cell (World.block_lt_of_cell? w _ hx157_0)).trans hx157_0
              replace p157 := eq_true p157
              replace q157 := eq_true q157
              obtain ⟨Ao36, co36, eo36⟩ := Kd.R_slice HO_5.out
              subst eo36
              try go_wp2_with (first | ((with_reducible refine gate_callee (f := 75) rfl ?_); refine goesL_ (some 90) rfl rfl Try.func75 (by kernel_rfl) rfl #[.slice Ao36 x5_1.length co36, .int .i64 (rd l1 x8_1)] rfl (by (try simp only [lm]); rfl) ?_; (with_reducible refine (e_number.calls k2 (fun k_ => some k_ = (.slice Ao36 x5_1.length co36 : Value).ownBlock) (.slice Ao36 x5_1.length co36) x5_1 (rd l1 x8_1) t158 w _ ?side1 ?side2 A33.out).mono ?_); (case side1 => exact HB.out); (case side2 => exact Kd.R_tight rfl HO_5.out); rintro e w37 ⟨v159, rfl, ho0, hb, hkp⟩; refine ⟨_, rfl, ?_⟩; have n0_ := Ak (Kd.R_mono (ok' := fun k_ => True) ho0 (fun k_ hk_ => trivial)); have n1_ := Ak (hb); clear HB HO_5; have HO160 := n0_; have HB := n1_; clear n0_ n1_; (try clear hb); (try clear hkp); (try clear ho0); obtain ⟨Ao38, co38, eo38⟩ := Kd.R_slice HO160.out; subst eo38) | ((with_reducible refine gate_callee (f := 74) rfl ?_); refine goesL_ (some 93) rfl rfl Try.func74 (by kernel_rfl) rfl #[.slice Ao38 t158.length co38, .int .u64 (IntKind.u64.wrap (x9_2))] rfl (by (try simp only [lm]); rfl) ?_; (with_reducible refine (e_count.calls k2 (fun k_ => some k_ = (.slice Ao38 t158.length co38 : Value).ownBlock) (.slice Ao38 t158.length co38) t158 (IntKind.u64.wrap (x9_2)) t161 w _ ?side1 ?side2 A34.out).mono ?_); (case side1 => exact HB.out); (case side2 => exact Kd.R_tight rfl HO160.out); rintro e w39 ⟨v162, rfl, ho0, hb, hkp⟩; refine ⟨_, rfl, ?_⟩; have n0_ := Ak (Kd.R_mono (ok' := fun k_ => True) ho0 (fun k_ hk_ => trivial)); have n1_ := Ak (hb); clear HB HO160; have HO163 := n0_; have HB := n1_; clear n0_ n1_; (try clear hb); (try clear hkp); (try clear ho0)))
              go_roundg k2
              case measure => have := HK1.out; have := HK2.out; omega
              case rel => exact ⟨(t161), (ji27), (by rfl), H', ⟨by have := HK1.out; have := HK2.out; omega⟩, ⟨by exact HO163.out⟩, ⟨by exact HB.out⟩⟩
            ·rw [if_neg c30] at H
             exact absurd H (by simp)
           ·rw [if_neg c29] at H
            exact absurd H (by simp)
          ·rw [if_neg c28] at H
           exact absurd H (by simp)
         ·rw [if_neg c26] at H
          have c26b0 : decide ((wrap64 (x8_1 + x9_2)) < (l1.length : Int)) = false := decide_eq_false c26
          clear c26
          by_cases c40 : 0 ≤ x8_1
          ·rw [if_pos c40] at H
           have c40b0 : decide (0 ≤ x8_1) = true := decide_eq_true c40
           clear c40
           by_cases c41 : x8_1 < (l1.length : Int)
           ·rw [if_pos c41] at H
            have c41b0 : decide (x8_1 < (l1.length : Int)) = true := decide_eq_true c41
            clear c41
            replace H := Option.bind_eq_some_iff.mp H
            obtain ⟨t165, A420, H⟩ := H
            replace H : ((e_count.f k2 t165 (IntKind.u64.wrap (x9_2))).bind fun t168 => (e_encode.l1 k2 l1 t168 (wrap64 (x8_1 + x9_2)))) = some r := H
            have A42 := Ak A420
            clear A420
            replace H := Option.bind_eq_some_iff.mp H
            obtain ⟨t168, A430, H⟩ := H
            replace H : (e_encode.l1 k2 l1 t168 (wrap64 (x8_1 + x9_2))) = some r := H
            have A43 := Ak A430
            clear A430
            have H' := Ak H
            clear H
            try go_wp2
            have n0_ := Ak (Kd.R_drew HO_5.out)
            have n1_ := Ak (below_drew1 HB.out)
            clear HO_5 HB
            have HO_5 := n0_
            have HB := n1_
            clear n0_ n1_
            refine start_ (n := 19) (S := fun w' => True) (ds := []) #[false, false, false, false, false, false, false, false, false, false, false, false, false, false, false, false, false, false, false] (by kernel_rfl) rfl rfl trivial (fun hHeld => ?_); refine with_tabW e_encode.tab22 e_encode.bits22 (fun HT_ HW_ => ?_)
            generalize wr.drew = w44 at HO_5 HB hHeld ⊢
            refine pure_ (i := 0) (N := some 64) (v := ?_) (a' := ?_) #[true, false, false, false, false, false, false, false, false, false, false, false, false, false, false, false, false, false, false] rfl rfl (any_of HT_.out (by kernel_rfl)) (fun _ _ _ h => h) (Or.inl ⟨by rfl, ?_⟩) ?_ ?_
            rotate_left
            ·intro w'
             go_simp
             with_reducible rfl
            rotate_left
            ·simp only [Act.put, List.setIfInBounds_toArray, List.set_cons_zero, List.set_cons_succ, i64_w, i32_w]
             rfl
            refine pure_ (i := 1) (N := some 65) (v := ?_) (a' := ?_) #[true, true, false, false, false, false, false, false, false, false, false, false, false, false, false, false, false, false, false] rfl rfl (any_of HT_.out (by kernel_rfl)) (fun _ _ _ h => h) (Or.inl ⟨by rfl, ?_⟩) ?_ ?_
            rotate_left
            ·intro w'
             go_simp
             with_reducible rfl
            rotate_left
            ·simp only [Act.put, List.setIfInBounds_toArray, List.set_cons_zero, List.set_cons_succ, i64_w, i32_w]
             rfl
            refine pure_ (i := 2) (N := some 66) (v := ?_) (a' := ?_) #[true, true, true, false, false, false, false, false, false, false, false, false, false, false, false, false, false, false, false] rfl rfl (any_of HT_.out (by kernel_rfl)) (fun _ _ _ h => h) (Or.inl ⟨by rfl, ?_⟩) ?_ ?_
            rotate_left
            ·intro w'
             go_simp
             with_reducible rfl
            rotate_left
            ·simp only [Act.put, List.setIfInBounds_toArray, List.set_cons_zero, List.set_cons_succ, i64_w, i32_w]
             rfl
            refine pure_ (i := 3) (N := some 67) (v := ?_) (a' := ?_) #[true, true, true, true, false, false, false, false, false, false, false, false, false, false, false, false, false, false, false] rfl rfl (any_of HT_.out (by kernel_rfl)) (fun _ _ _ h => h) (Or.inl ⟨by rfl, ?_⟩) ?_ ?_
            rotate_left
            ·intro w'
             go_simp
             with_reducible rfl
            rotate_left
            ·simp only [Act.put, List.setIfInBounds_toArray, List.set_cons_zero, List.set_cons_succ, i64_w, i32_w]
             rfl
            refine pure_ (i := 4) (N := some 68) (v := ?_) (a' := ?_) #[true, true, true, true, true, false, false, false, false, false, false, false, false, false, false, false, false, false, false] rfl rfl (any_of HT_.out (by kernel_rfl)) (fun _ _ _ h => h) (Or.inl ⟨by rfl, ?_⟩) ?_ ?_
            rotate_left
            ·intro w'
             go_simp
             with_reducible rfl
            rotate_left
            ·simp only [Act.put, List.setIfInBounds_toArray, List.set_cons_zero, List.set_cons_succ, i64_w, i32_w]
             rfl
            refine pure_ (i := 5) (N := some 69) (v := ?_) (a' := ?_) #[true, true, true, true, true, true, false, false, false, false, false, false, false, false, false, false, false, false, false] rfl rfl (any_of HT_.out (by kernel_rfl)) (fun _ _ _ h => h) (Or.inl ⟨by rfl, ?_⟩) ?_ ?_
            rotate_left
            ·intro w'
             go_simp
             with_reducible rfl
            rotate_left
            ·simp only [Act.put, List.setIfInBounds_toArray, List.set_cons_zero, List.set_cons_succ, i64_w, i32_w]
             rfl
            refine pure_ (i := 6) (N := some 70) (v := ?_) (a' := ?_) #[true, true, true, true, true, true, true, false, false, false, false, false, false, false, false, false, false, false, false] rfl rfl (any_of HT_.out (by kernel_rfl)) (fun _ _ _ h => h) (Or.inl ⟨by rfl, ?_⟩) ?_ ?_
            rotate_left
            ·intro w'
             go_simp
             with_reducible rfl
            rotate_left
            ·simp only [Act.put, List.setIfInBounds_toArray, List.set_cons_zero, List.set_cons_succ, i64_w, i32_w]
             rfl
            refine pure_ (i := 7) (N := some 71) (v := undef) (a' := ?_) #[true, true, true, true, true, true, true, true, false, false, false, false, false, false, false, false, false, false, false] rfl rfl (any_of HT_.out (by kernel_rfl)) (fun _ _ _ h => h) (Or.inr ⟨by rfl, rfl⟩) ?_ ?_
            rotate_left
            ·simp only [Act.put, List.setIfInBounds_toArray, List.set_cons_zero, List.set_cons_succ, i64_w, i32_w]
             rfl
            refine pure_ (i := 8) (N := some 72) (v := undef) (a' := ?_) #[true, true, true, true, true, true, true, true, true, false, false, false, false, false, false, false, false, false, false] rfl rfl (any_of HT_.out (by kernel_rfl)) (fun _ _ _ h => h) (Or.inr ⟨by rfl, rfl⟩) ?_ ?_
            rotate_left
            ·simp only [Act.put, List.setIfInBounds_toArray, List.set_cons_zero, List.set_cons_succ, i64_w, i32_w]
             rfl
            refine pure_ (i := 9) (N := some 73) (v := undef) (a' := ?_) #[true, true, true, true, true, true, true, true, true, true, false, false, false, false, false, false, false, false, false] rfl rfl (any_of HT_.out (by kernel_rfl)) (fun _ _ _ h => h) (Or.inr ⟨by rfl, rfl⟩) ?_ ?_
            rotate_left
            ·simp only [Act.put, List.setIfInBounds_toArray, List.set_cons_zero, List.set_cons_succ, i64_w, i32_w]
             rfl
            refine pure_ (i := 10) (N := some 74) (v := undef) (a' := ?_) #[true, true, true, true, true, true, true, true, true, true, true, false, false, false, false, false, false, false, false] rfl rfl (any_of HT_.out (by kernel_rfl)) (fun _ _ _ h => h) (Or.inr ⟨by rfl, rfl⟩) ?_ ?_
            rotate_left
            ·simp only [Act.put, List.setIfInBounds_toArray, List.set_cons_zero, List.set_cons_succ, i64_w, i32_w]
             rfl
            refine pure_ (i := 11) (N := some 75) (v := undef) (a' := ?_) #[true, true, true, true, true, true, true, true, true, true, true, true, false, false, false, false, false, false, false] rfl rfl (any_of HT_.out (by kernel_rfl)) (fun _ _ _ h => h) (Or.inr ⟨by rfl, rfl⟩) ?_ ?_
            rotate_left
            ·simp only [Act.put, List.setIfInBounds_toArray, List.set_cons_zero, List.set_cons_succ, i64_w, i32_w]
             rfl
            refine pure_ (i := 12) (N := some 76) (v := undef) (a' := ?_) #[true, true, true, true, true, true, true, true, true, true, true, true, true, false, false, false, false, false, false] rfl rfl (any_of HT_.out (by kernel_rfl)) (fun _ _ _ h => h) (Or.inr ⟨by rfl, rfl⟩) ?_ ?_
            rotate_left
            ·simp only [Act.put, List.setIfInBounds_toArray, List.set_cons_zero, List.set_cons_succ, i64_w, i32_w]
             rfl
            refine pure_ (i := 13) (N := some 77) (v := undef) (a' := ?_) #[true, true, true, true, true, true, true, true, true, true, true, true, true, true, false, false, false, false, false] rfl rfl (any_of HT_.out (by kernel_rfl)) (fun _ _ _ h => h) (Or.inr ⟨by rfl, rfl⟩) ?_ ?_
            rotate_left
            ·simp only [Act.put, List.setIfInBounds_toArray, List.set_cons_zero, List.set_cons_succ, i64_w, i32_w]
             rfl
            refine pure_ (i := 14) (N := some 78) (v := undef) (a' := ?_) #[true, true, true, true, true, true, true, true, true, true, true, true, true, true, true, false, false, false, false] rfl rfl (any_of HT_.out (by kernel_rfl)) (fun _ _ _ h => h) (Or.inr ⟨by rfl, rfl⟩) ?_ ?_
            rotate_left
            ·simp only [Act.put, List.setIfInBounds_toArray, List.set_cons_zero, List.set_cons_succ, i64_w, i32_w]
             rfl
            refine pure_ (i := 15) (N := some 79) (v := undef) (a' := ?_) #[true, true, true, true, true, true, true, true, true, true, true, true, true, true, true, true, false, false, false] rfl rfl (any_of HT_.out (by kernel_rfl)) (fun _ _ _ h => h) (Or.inr ⟨by rfl, rfl⟩) ?_ ?_
            rotate_left
            ·simp only [Act.put, List.setIfInBounds_toArray, List.set_cons_zero, List.set_cons_succ, i64_w, i32_w]
             rfl
            refine pure_ (i := 16) (N := some 80) (v := undef) (a' := ?_) #[true, true, true, true, true, true, true, true, true, true, true, true, true, true, true, true, true, false, false] rfl rfl (any_of HT_.out (by kernel_rfl)) (fun _ _ _ h => h) (Or.inr ⟨by rfl, rfl⟩) ?_ ?_
            rotate_left
            ·simp only [Act.put, List.setIfInBounds_toArray, List.set_cons_zero, List.set_cons_succ, i64_w, i32_w]
             rfl
            refine pure_ (i := 17) (N := some 81) (v := undef) (a' := ?_) #[true, true, true, true, true, true, true, true, true, true, true, true, true, true, true, true, true, true, false] rfl rfl (any_of HT_.out (by kernel_rfl)) (fun _ _ _ h => h) (Or.inr ⟨by rfl, rfl⟩) ?_ ?_
            rotate_left
            ·simp only [Act.put, List.setIfInBounds_toArray, List.set_cons_zero, List.set_cons_succ, i64_w, i32_w]
             rfl
            refine pure_ (i := 18) (N := some 82) (v := ?_) (a' := ?_) #[true, true, true, true, true, true, true, true, true, true, true, true, true, true, true, true, true, true, true] rfl rfl (any_of HT_.out (by kernel_rfl)) (fun _ _ _ h => h) (Or.inl ⟨by rfl, ?_⟩) ?_ ?_
            rotate_left
            ·intro w'
             go_simp
             with_reducible rfl
            rotate_left
            ·simp only [Act.put, List.setIfInBounds_toArray, List.set_cons_zero, List.set_cons_succ, i64_w, i32_w]
             rfl
            refine done_ (done_of HT_.out (by kernel_rfl)) ?_
            have p164 : 0 ≤ (x8_1 : Int) := of_decide_eq_true (by (with_reducible assumption))
            have q164 : x8_1 < (l1.length : Int) := of_decide_eq_true (by (with_reducible assumption))
            obtain ⟨ad164, e164, hx164_0⟩ := Kd.at_int HR1.out x8_1 p164 q164
            cases e164
            replace hx164_0 := (HB.out.cell (World.block_lt_of_cell? w _ hx164_0)).trans hx164_0
            replace p164 := eq_true p164
            replace q164 := eq_true q164
            obtain ⟨Ao45, co45, eo45⟩ := Kd.R_slice HO_5.out
            subst eo45
            try go_wp2_with (first | ((with_reducible refine gate_callee (f := 75) rfl ?_); refine goesL_ (some 90) rfl rfl Try.func75 (by kernel_rfl) rfl #[.slice Ao45 x5_1.length co45, .int .i64 (rd l1 x8_1)] rfl (by (try simp only [lm]); rfl) ?_; (with_reducible refine (e_number.calls k2 (fun k_ => some k_ = (.slice Ao45 x5_1.length co45 : Value).ownBlock) (.slice Ao45 x5_1.length co45) x5_1 (rd l1 x8_1) t165 w _ ?side1 ?side2 A42.out).mono ?_); (case side1 => exact HB.out); (case side2 => exact Kd.R_tight rfl HO_5.out); rintro e w46 ⟨v166, rfl, ho0, hb, hkp⟩; refine ⟨_, rfl, ?_⟩; have n0_ := Ak (Kd.R_mono (ok' := fun k_ => True) ho0 (fun k_ hk_ => trivial)); have n1_ := Ak (hb); clear HB HO_5; have HO167 := n0_; have HB := n1_; clear n0_ n1_; (try clear hb); (try clear hkp); (try clear ho0); obtain ⟨Ao47, co47, eo47⟩ := Kd.R_slice HO167.out; subst eo47) | ((with_reducible refine gate_callee (f := 74) rfl ?_); refine goesL_ (some 93) rfl rfl Try.func74 (by kernel_rfl) rfl #[.slice Ao47 t165.length co47, .int .u64 (IntKind.u64.wrap (x9_2))] rfl (by (try simp only [lm]); rfl) ?_; (with_reducible refine (e_count.calls k2 (fun k_ => some k_ = (.slice Ao47 t165.length co47 : Value).ownBlock) (.slice Ao47 t165.length co47) t165 (IntKind.u64.wrap (x9_2)) t168 w _ ?side1 ?side2 A43.out).mono ?_); (case side1 => exact HB.out); (case side2 => exact Kd.R_tight rfl HO167.out); rintro e w48 ⟨v169, rfl, ho0, hb, hkp⟩; refine ⟨_, rfl, ?_⟩; have n0_ := Ak (Kd.R_mono (ok' := fun k_ => True) ho0 (fun k_ hk_ => trivial)); have n1_ := Ak (hb); clear HB HO167; have HO170 := n0_; have HB := n1_; clear n0_ n1_; (try clear hb); (try clear hkp); (try clear ho0)))
            go_roundg k2
            case measure => have := HK1.out; have := HK2.out; omega
            case rel => exact ⟨(t168), (wrap64 (x8_1 + x9_2)), (by rfl), H', ⟨by have := HK1.out; have := HK2.out; omega⟩, ⟨by exact HO170.out⟩, ⟨by exact HB.out⟩⟩
           ·rw [if_neg c41] at H
            exact absurd H (by simp)
          ·rw [if_neg c40] at H
           exact absurd H (by simp)
      ·rw [if_neg c25] at H
       have c25b0 : decide (x8_1 < (l1.length : Int)) = false := decide_eq_false c25
       clear c25
       obtain rfl := Option.some.inj H
       go_wp2
       go_ret
       exact ⟨_, by rfl, by exact HO_5.out, by exact HB.out⟩
   ·rw [if_neg c20] at H
    have c20b0 : (a0 == 2) = false := beq_eq_false_iff_ne.mpr c20
    have c20b1 : (a0 != 2) = true := bne_iff_ne.mpr c20
    by_cases c49 : a0 = 3
    ·rw [if_pos c49] at H
     have c49b0 : (a0 == 3) = true := beq_iff_eq.mpr c49
     have c49b1 : (a0 != 3) = false := bne_eq_false_iff_eq.mpr c49
     clear c49
     replace H := Option.bind_eq_some_iff.mp H
     obtain ⟨⟨t171, t172⟩, A500, H⟩ := H
     replace H : ((e_count.f k t148 (IntKind.u64.wrap ((t171.length : Int)))).bind fun t177 => (if 0 < (t171.length : Int) then ((e_number.f k t177 (rd t171 0)).bind fun t181 => (e_encode.l3 k t181 t171 t172 1)) else (none))) = some r := H
     have A50 := Ak A500
     clear A500
     replace H := Option.bind_eq_some_iff.mp H
     obtain ⟨t177, A510, H⟩ := H
     replace H : (if 0 < (t171.length : Int) then ((e_number.f k t177 (rd t171 0)).bind fun t181 => (e_encode.l3 k t181 t171 t172 1)) else (none)) = some r := H
     have A51 := Ak A510
     clear A510
     by_cases c52 : 0 < (t171.length : Int)
     ·rw [if_pos c52] at H
      have c52b0 : decide (0 < (t171.length : Int)) = true := decide_eq_true c52
      have c52b1 : decide (0 < t171.length) = true := decide_eq_true (by omega)
      clear c52
      replace H := Option.bind_eq_some_iff.mp H
      obtain ⟨t181, A530, H⟩ := H
      replace H : (e_encode.l3 k t181 t171 t172 1) = some r := H
      have A53 := Ak A530
      clear A530
      have H' := Ak H
      clear H
      go_enter Try.func53, Try.ntmps53
      try go_wp2_with (first | ((with_reducible refine gate_dst (N := 23) rfl ?_); refine Kd.R_lit (Kd.int .u8) _ 5 ?hg (N := 23) ?hd (xs := ([(a0) % 256] : List Int)) (inner := [.int .u8 ((a0) % 256)]) (ok := fun _ => True) (okp := fun _ => True) ?hr ?hp (fun _ hk => hk) trivial (Below.refl _ _) (Nat.le_refl _) (by simp) ?_; (case hd => rfl); (case hg => rfl); (case hr => (go_simp; done)); (case hp => exact (Reps.one (show Kd.M (Kd.int .u8) _ _ _ ((a0) % 256) [.int .u8 ((a0) % 256)] from rfl) (Reps.none _ _))); intro v146 w54 ho55 hb hg_ hnew_; clear hg_ hnew_; (rw [← Ny145.out] at ho55); have n0_ := Ak (Kd.R_lower ho55 (below_size (by exact HB.out))); have n1_ := Ak (below_step (by exact HB.out) hb); clear HB; have HO147 := n0_; have HB := n1_; clear n0_ n1_ hb ho55; obtain ⟨Ao56, co56, eo56⟩ := Kd.R_slice HO147.out; subst eo56) | ((with_reducible refine gate_callee (f := 74) rfl ?_); refine goesL_ (some 27) rfl rfl Try.func74 (by kernel_rfl) rfl #[.slice Ao56 y145.length co56, .int .u64 (IntKind.u64.wrap ((l1.length : Int)))] rfl (by (try simp only [lm]); rfl) ?_; (with_reducible refine (e_count.calls k (fun k_ => some k_ = (.slice Ao56 y145.length co56 : Value).ownBlock) (.slice Ao56 y145.length co56) y145 (IntKind.u64.wrap ((l1.length : Int))) t148 w _ ?side1 ?side2 A3.out).mono ?_); (case side1 => exact HB.out); (case side2 => exact Kd.R_tight rfl HO147.out); rintro e w57 ⟨v149, rfl, ho0, hb, hkp⟩; refine ⟨_, rfl, ?_⟩; have n0_ := Ak (Kd.R_mono (ok' := fun k_ => True) ho0 (fun k_ hk_ => trivial)); have n1_ := Ak (hb); clear HB HO147; have HO150 := n0_; have HB := n1_; clear n0_ n1_; (try clear hb); (try clear hkp); (try clear ho0)) | ((with_reducible refine gate_callee (f := 76) rfl ?_); refine goesL_ (some 101) rfl rfl Try.func76 (by kernel_rfl) rfl #[.slice A1 l1.length c1] rfl (by (try simp only [lm]); rfl) ?_; (with_reducible refine (e_distinct.calls k _ _ l1 t171 t172 _ ?side1 ?side2 A50.out).mono ?_); (case side1 => repeat (exact (Kd.C_below HR1.out HB.out))); (case side2 => exact HC1.out); rintro e w58 ⟨v173, v175, rfl, ho0, ho1, hb⟩; refine ⟨_, rfl, ?_⟩; have n0_ := Ak (Kd.R_below (by exact HO150.out) hb); have n1_ := Ak (Kd.R_lower ho0 (below_size (by exact HB.out))); have n2_ := Ak (Kd.R_lower ho1 (below_size (by exact HB.out))); have n3_ := Ak (below_step (by exact HB.out) hb); clear HO150 HB; have HO150 := n0_; have HO174 := n1_; have HO176 := n2_; have HB := n3_; clear n0_ n1_ n2_ n3_; (try clear hb); (try clear ho0); (try clear ho1)))
      have n0_ := Ak (Kd.R_drew HO150.out)
      have n1_ := Ak (Kd.R_drew HO174.out)
      have n2_ := Ak (Kd.R_drew HO176.out)
      have n3_ := Ak (below_drew1 HB.out)
      clear HO150 HO174 HO176 HB
      have HO150 := n0_
      have HO174 := n1_
      have HO176 := n2_
      have HB := n3_
      clear n0_ n1_ n2_ n3_
      obtain ⟨Ao60, co60, eo60⟩ := Kd.R_slice HO174.out
      (subst eo60)
      have p180 : 0 ≤ (0 : Int) := (by omega)
      have q180 : 0 < (t171.length : Int) := of_decide_eq_true (by (with_reducible assumption))
      obtain ⟨ad180, e180, hx180_0⟩ := Kd.at_int (Kd.R_reads' HO174.out).2.2 0 p180 q180
      cases e180
      have qi180 : (0 < t171.length) = True := eq_true (by omega)
      (try rw [show ((0 : Int)).toNat = 0 from rfl] at hx180_0)
      (try rw [Addr.add_zero'] at hx180_0)
      replace p180 := eq_true p180
      replace q180 := eq_true q180
      obtain ⟨Ao61, co61, eo61⟩ := Kd.R_slice HO150.out
      (subst eo61)
      refine start_ (n := 10) (S := fun w' => w'.cell? ad180 = some (.int .i64 (rd t171 0))) (ds := []) #[false, false, false, false, false, false, false, false, false, false] (by kernel_rfl) rfl rfl (hx180_0) (fun hHeld => ?_); refine with_tabW e_encode.tab28 e_encode.bits28 (fun HT_ HW_ => ?_)
      generalize w58.drew = w59 at HO150 HO174 HO176 HB hx180_0 hHeld ⊢
      refine pure_ (i := 0) (N := some 104) (v := ?_) (a' := ?_) #[true, false, false, false, false, false, false, false, false, false] rfl rfl (any_of HT_.out (by kernel_rfl)) (fun _ _ _ h => h) (Or.inl ⟨by rfl, ?_⟩) ?_ ?_
      rotate_left
      ·intro w'
       go_simp
       with_reducible rfl
      rotate_left
      ·simp only [Act.put, List.setIfInBounds_toArray, List.set_cons_zero, List.set_cons_succ, i64_w, i32_w]
       rfl
      refine pure_ (i := 1) (N := some 105) (v := ?_) (a' := ?_) #[true, true, false, false, false, false, false, false, false, false] rfl rfl (any_of HT_.out (by kernel_rfl)) (fun _ _ _ h => h) (Or.inl ⟨by rfl, ?_⟩) ?_ ?_
      rotate_left
      ·intro w'
       go_simp
       with_reducible rfl
      rotate_left
      ·simp only [Act.put, List.setIfInBounds_toArray, List.set_cons_zero, List.set_cons_succ, i64_w, i32_w]
       rfl
      refine pure_ (i := 2) (N := some 106) (v := ?_) (a' := ?_) #[true, true, true, false, false, false, false, false, false, false] rfl rfl (any_of HT_.out (by kernel_rfl)) (fun _ _ _ h => h) (Or.inl ⟨by rfl, ?_⟩) ?_ ?_
      rotate_left
      ·intro w'
       go_simp
       with_reducible rfl
      rotate_left
      ·simp only [Act.put, List.setIfInBounds_toArray, List.set_cons_zero, List.set_cons_succ, i64_w, i32_w]
       rfl
      refine pure_ (i := 3) (N := some 107) (v := ?_) (a' := ?_) #[true, true, true, true, false, false, false, false, false, false] rfl rfl (any_of HT_.out (by kernel_rfl)) (fun _ _ _ h => h) (Or.inl ⟨by rfl, ?_⟩) ?_ ?_
      rotate_left
      ·intro w'
       go_simp
       with_reducible rfl
      rotate_left
      ·simp only [Act.put, List.setIfInBounds_toArray, List.set_cons_zero, List.set_cons_succ, i64_w, i32_w]
       rfl
      refine pure_ (i := 5) (N := some 109) (v := ?_) (a' := ?_) #[true, true, true, true, false, true, false, false, false, false] rfl rfl (any_of HT_.out (by kernel_rfl)) (fun _ _ _ h => h) (Or.inl ⟨by rfl, ?_⟩) ?_ ?_
      rotate_left
      ·intro w'
       go_simp
       with_reducible rfl
      rotate_left
      ·simp only [Act.put, List.setIfInBounds_toArray, List.set_cons_zero, List.set_cons_succ, i64_w, i32_w]
       rfl
      refine pure_ (i := 6) (N := some 110) (v := ?_) (a' := ?_) #[true, true, true, true, false, true, true, false, false, false] rfl rfl (any_of HT_.out (by kernel_rfl)) (fun _ _ _ h => h) (Or.inl ⟨by rfl, ?_⟩) ?_ ?_
      rotate_left
      ·intro w'
       go_simp
       with_reducible rfl
      rotate_left
      ·simp only [Act.put, List.setIfInBounds_toArray, List.set_cons_zero, List.set_cons_succ, i64_w, i32_w]
       rfl
      refine take_ (i := 7) (N := some 111) (v := ?_) (a' := ?_) #[true, true, true, true, false, true, true, true, false, false] rfl rfl (take_ofW HT_.out HW_.out (by kernel_rfl)) (fun _ _ _ h => h) (Or.inl ⟨by rfl, ?_⟩) hHeld ?_ ?_
      rotate_left
      ·intro w' s0
       go_simp
       with_reducible rfl
      rotate_left
      ·simp only [Act.put, List.setIfInBounds_toArray, List.set_cons_zero, List.set_cons_succ, i64_w, i32_w]
       rfl
      refine one_ (i := 4) (N := some 108) #[true, true, true, true, true, true, true, true, false, false] rfl rfl (one_of HT_.out (by kernel_rfl)) (by decide) (fun K hK => ?_)
      refine goes_ Try.func74 (by kernel_rfl) rfl #[.slice Ao61 t148.length co61, .int .u64 (IntKind.u64.wrap ((t171.length : Int)))] (by rfl) rfl rfl (by (try simp only [lm]); rfl) ?_
      with_reducible refine (e_count.calls k (fun k_ => some k_ = (.slice Ao61 t148.length co61 : Value).ownBlock) (.slice Ao61 t148.length co61) t148 (IntKind.u64.wrap ((t171.length : Int))) t177 w _ ?side1 ?side2 A51.out).mono ?_
      (case side1 => exact HB.out)
      (case side2 => exact Kd.R_tight rfl HO150.out)
      rintro e w62 ⟨v178, rfl, ho0, hb, hkp⟩
      have HS0_ := cell_kept (hHeld) hkp (by exact (fun hs_ => ((((Kd.R_apart' HO174.out (Kd.R_typed HO150.out) (by decide))).1 _ rfl).2) hs_))
      refine ⟨_, rfl, ?_⟩
      have n0_ := Ak (Kd.R_mono (ok' := fun k_ => some k_ ≠ (v175 : Value).ownBlock) (Kd.R_keptB ((Kd.R_apart' HO174.out (Kd.R_typed HO150.out) (by decide))) hkp (fun k_ hk_ hs_ => (hk_.2) hs_)) (fun k_ hk_ => hk_.1.1))
      have n1_ := Ak (Kd.R_mono (ok' := fun k_ => some k_ ≠ (.slice (some ad180) t171.length co60 : Value).ownBlock) (Kd.R_keptB ((Kd.R_apart' HO176.out (Kd.R_typed HO150.out) (by decide))) hkp (fun k_ hk_ hs_ => (hk_.2) hs_)) (fun k_ hk_ => hk_.1.1))
      have n2_ := Ak (Kd.R_mono (ok' := fun k_ => True) ho0 (fun k_ hk_ => trivial))
      have n3_ := Ak (hb)
      clear HO174 HO176 HB HO150
      have HO174 := n0_
      have HO176 := n1_
      have HO179 := n2_
      have HB := n3_
      clear n0_ n1_ n2_ n3_
      (try clear hb)
      (try clear hkp)
      (try clear ho0)
      obtain ⟨Ao63, co63, eo63⟩ := Kd.R_slice HO179.out
      (subst eo63)
      refine hK.out _ _ (HS0_) (fun hHeld => ?_)
      clear hK K
      refine norm_ (a' := ?_) ?_ ?_
      rotate_left
      ·show Act.put _ (some 108) _ = _
       simp only [Act.put, List.setIfInBounds_toArray, List.set_cons_zero, List.set_cons_succ, i64_w, i32_w]
       rfl
      refine one_ (i := 8) (N := some 112) #[true, true, true, true, true, true, true, true, true, false] rfl rfl (one_of HT_.out (by kernel_rfl)) (by decide) (fun K hK => ?_)
      refine goes_ Try.func75 (by kernel_rfl) rfl #[.slice Ao63 t177.length co63, .int .i64 (rd t171 0)] (by rfl) rfl rfl (by (try simp only [lm]); rfl) ?_
      with_reducible refine (e_number.calls k (fun k_ => some k_ = (.slice Ao63 t177.length co63 : Value).ownBlock) (.slice Ao63 t177.length co63) t177 (rd t171 0) t181 w _ ?side1 ?side2 A53.out).mono ?_
      (case side1 => exact HB.out)
      (case side2 => exact Kd.R_tight rfl HO179.out)
      rintro e w64 ⟨v182, rfl, ho0, hb, hkp⟩
      have HS0_ := cell_kept (hHeld) hkp (by exact (fun hs_ => ((((Kd.R_apart' HO174.out (Kd.R_typed HO179.out) (by decide))).1 _ rfl).2) hs_))
      refine ⟨_, rfl, ?_⟩
      have n0_ := Ak (Kd.R_mono (ok' := fun k_ => some k_ ≠ (v175 : Value).ownBlock) (Kd.R_keptB ((Kd.R_apart' HO174.out (Kd.R_typed HO179.out) (by decide))) hkp (fun k_ hk_ hs_ => (hk_.2) hs_)) (fun k_ hk_ => hk_.1.1))
      have n1_ := Ak (Kd.R_mono (ok' := fun k_ => some k_ ≠ (.slice (some ad180) t171.length co60 : Value).ownBlock) (Kd.R_keptB ((Kd.R_apart' HO176.out (Kd.R_typed HO179.out) (by decide))) hkp (fun k_ hk_ hs_ => (hk_.2) hs_)) (fun k_ hk_ => hk_.1.1))
      have n2_ := Ak (Kd.R_mono (ok' := fun k_ => True) ho0 (fun k_ hk_ => trivial))
      have n3_ := Ak (hb)
      clear HO174 HO176 HB HO179
      have HO174 := n0_
      have HO176 := n1_
      have HO183 := n2_
      have HB := n3_
      clear n0_ n1_ n2_ n3_
      (try clear hb)
      (try clear hkp)
      (try clear ho0)
      refine hK.out _ _ (HS0_) (fun hHeld => ?_)
      clear hK K
      refine norm_ (a' := ?_) ?_ ?_
      rotate_left
      ·show Act.put _ (some 112) _ = _
       simp only [Act.put, List.setIfInBounds_toArray, List.set_cons_zero, List.set_cons_succ, i64_w, i32_w]
       rfl
      refine pure_ (i := 9) (N := some 5) (v := ?_) (a' := ?_) #[true, true, true, true, true, true, true, true, true, true] rfl rfl (any_of HT_.out (by kernel_rfl)) (fun _ _ _ h => h) (Or.inl ⟨by rfl, ?_⟩) ?_ ?_
      rotate_left
      ·intro w'
       go_simp
       with_reducible rfl
      rotate_left
      ·simp only [Act.put, List.setIfInBounds_toArray, List.set_cons_zero, List.set_cons_succ, i64_w, i32_w]
       rfl
      refine done_ (done_of HT_.out (by kernel_rfl)) ?_
      try go_wp2
      go_loopg [5, 12] k (fun kq v5 v12 w' => ∃ (x5_1 : List Int) (x12_1 : Int), v12 = .int .i64 x12_1 ∧ Aside0 (e_encode.l3 kq x5_1 t171 t172 x12_1 = some r) ∧ Aside0 (kq ≤ k) ∧ Aside0 (Kd.R (Kd.int .u8) 5 w' w.heap.size (fun _ => True) v5 x5_1) ∧ Aside0 (Kd.R (Kd.int .i64) 3 w' w.heap.size (fun k_ => some k_ ≠ (v175 : Value).ownBlock) (.slice (some ad180) t171.length co60) t171) ∧ Aside0 (Kd.R (Kd.int .i64) 3 w' w.heap.size (fun k_ => some k_ ≠ ((.slice (some ad180) t171.length co60) : Value).ownBlock) v175 t172) ∧ Aside0 (Below w.heap.size w w'))
      case atStart => exact ⟨(t181), (1), (by rfl), H', ⟨Nat.le_refl _⟩, ⟨by exact HO183.out⟩, ⟨by exact HO174.out⟩, ⟨by exact HO176.out⟩, ⟨by exact HB.out⟩⟩
      case round =>
       clear H'
       try clear c4
       try clear c20
       try clear c20b0
       try clear c20b1
       try clear c49b0
       try clear c49b1
       try clear c52b0
       try clear c52b1
       try clear hx180_0
       try clear p180
       try clear q180
       obtain ⟨x5_1, x12_1, rfl, HA, HK1, HO_5, HO_10, HO_11, HB⟩ := hrel
       cases gk with
       | zero => exact absurd HA.out (by simp [e_encode.l3])
       | succ k1 =>
        have H := HA.out
        clear HA
        simp only [e_encode.l3] at H
        by_cases c65 : x12_1 < (t171.length : Int)
        ·rw [if_pos c65] at H
         have c65b0 : decide (x12_1 < (t171.length : Int)) = true := decide_eq_true c65
         clear c65
         by_cases c66 : 0 ≤ x12_1
         ·rw [if_pos c66] at H
          have c66b0 : decide (0 ≤ x12_1) = true := decide_eq_true c66
          clear c66
          obtain ⟨ji67, hji67⟩ : ∃ j_ : Int, (wrap64 (x12_1 - 1)) = j_ := ⟨_, rfl⟩
          replace H : (if 0 ≤ (ji67) then (if (ji67) < (t171.length : Int) then ((e_count.f k1 x5_1 (IntKind.u64.wrap (wrap64 ((rd t171 x12_1) - (rd t171 (ji67)))))).bind fun t186 => (e_encode.l3 k1 t186 t171 t172 (wrap64 (x12_1 + 1)))) else (none)) else (none)) = some r := by (rw [hji67] at H; exact H)
          have hji67w : (IntKind.i64.wrap (x12_1 - 1)) = ji67 := (i64_w _).trans hji67
          by_cases c68 : 0 ≤ (ji67)
          ·rw [if_pos c68] at H
           have c68b0 : decide (0 ≤ (ji67)) = true := decide_eq_true c68
           clear c68
           by_cases c69 : (ji67) < (t171.length : Int)
           ·rw [if_pos c69] at H
            have c69b0 : decide ((ji67) < (t171.length : Int)) = true := decide_eq_true c69
            clear c69
            replace H := Option.bind_eq_some_iff.mp H
            obtain ⟨t186, A700, H⟩ := H
            replace H : (e_encode.l3 k1 t186 t171 t172 (wrap64 (x12_1 + 1))) = some r := H
            have A70 := Ak A700
            clear A700
            have H' := Ak H
            clear H
            try go_wp2
            have n0_ := Ak (Kd.R_drew HO_5.out)
            have n1_ := Ak (Kd.R_drew HO_10.out)
            have n2_ := Ak (Kd.R_drew HO_11.out)
            have n3_ := Ak (below_drew1 HB.out)
            clear HO_5 HO_10 HO_11 HB
            have HO_5 := n0_
            have HO_10 := n1_
            have HO_11 := n2_
            have HB := n3_
            clear n0_ n1_ n2_ n3_
            have p184 : 0 ≤ (x12_1 : Int) := of_decide_eq_true (by (with_reducible assumption))
            have q184 : x12_1 < (t171.length : Int) := of_decide_eq_true (by (with_reducible assumption))
            obtain ⟨ad184, e184, hx184_0⟩ := Kd.at_int (Kd.R_reads' HO_10.out).2.2 x12_1 p184 q184
            obtain rfl : ad180 = ad184 := (by injection e184)
            replace p184 := eq_true p184
            replace q184 := eq_true q184
            have p185 : 0 ≤ ((ji67) : Int) := of_decide_eq_true (by (with_reducible assumption))
            have q185 : (ji67) < (t171.length : Int) := of_decide_eq_true (by (with_reducible assumption))
            obtain ⟨ad185, e185, hx185_0⟩ := Kd.at_int (Kd.R_reads' HO_10.out).2.2 (ji67) p185 q185
            obtain rfl : ad180 = ad185 := (by injection e185)
            replace p185 := eq_true p185
            replace q185 := eq_true q185
            obtain ⟨Ao72, co72, eo72⟩ := Kd.R_slice HO_5.out
            (subst eo72)
            refine start_ (n := 14) (S := fun w' => w'.cell? (ad180.add (x12_1).toNat) = some (.int .i64 (rd t171 x12_1)) ∧ w'.cell? (ad180.add ((ji67)).toNat) = some (.int .i64 (rd t171 (ji67)))) (ds := []) #[false, false, false, false, false, false, false, false, false, false, false, false, false, false] (by kernel_rfl) rfl rfl ⟨hx184_0, hx185_0⟩ (fun hHeld => ?_); refine with_tabW e_encode.tab32 e_encode.bits32 (fun HT_ HW_ => ?_)
            generalize wr.drew = w71 at HO_5 HO_10 HO_11 HB hx184_0 hx185_0 hHeld ⊢
            refine pure_ (i := 0) (N := some 119) (v := ?_) (a' := ?_) #[true, false, false, false, false, false, false, false, false, false, false, false, false, false] rfl rfl (any_of HT_.out (by kernel_rfl)) (fun _ _ _ h => h) (Or.inl ⟨by rfl, ?_⟩) ?_ ?_
            rotate_left
            ·intro w'
             go_simp
             with_reducible rfl
            rotate_left
            ·simp only [Act.put, List.setIfInBounds_toArray, List.set_cons_zero, List.set_cons_succ, i64_w, i32_w]
             rfl
            refine pure_ (i := 1) (N := some 120) (v := ?_) (a' := ?_) #[true, true, false, false, false, false, false, false, false, false, false, false, false, false] rfl rfl (any_of HT_.out (by kernel_rfl)) (fun _ _ _ h => h) (Or.inl ⟨by rfl, ?_⟩) ?_ ?_
            rotate_left
            ·intro w'
             go_simp
             with_reducible rfl
            rotate_left
            ·simp only [Act.put, List.setIfInBounds_toArray, List.set_cons_zero, List.set_cons_succ, i64_w, i32_w]
             rfl
            refine pure_ (i := 2) (N := some 121) (v := ?_) (a' := ?_) #[true, true, true, false, false, false, false, false, false, false, false, false, false, false] rfl rfl (any_of HT_.out (by kernel_rfl)) (fun _ _ _ h => h) (Or.inl ⟨by rfl, ?_⟩) ?_ ?_
            rotate_left
            ·intro w'
             go_simp
             with_reducible rfl
            rotate_left
            ·simp only [Act.put, List.setIfInBounds_toArray, List.set_cons_zero, List.set_cons_succ, i64_w, i32_w]
             rfl
            refine pure_ (i := 3) (N := some 122) (v := ?_) (a' := ?_) #[true, true, true, true, false, false, false, false, false, false, false, false, false, false] rfl rfl (any_of HT_.out (by kernel_rfl)) (fun _ _ _ h => h) (Or.inl ⟨by rfl, ?_⟩) ?_ ?_
            rotate_left
            ·intro w'
             go_simp
             with_reducible rfl
            rotate_left
            ·simp only [Act.put, List.setIfInBounds_toArray, List.set_cons_zero, List.set_cons_succ, i64_w, i32_w]
             rfl
            refine pure_ (i := 5) (N := some 124) (v := ?_) (a' := ?_) #[true, true, true, true, false, true, false, false, false, false, false, false, false, false] rfl rfl (any_of HT_.out (by kernel_rfl)) (fun _ _ _ h => h) (Or.inl ⟨by rfl, ?_⟩) ?_ ?_
            rotate_left
            ·intro w'
             go_simp
             with_reducible rfl
            rotate_left
            ·simp only [Act.put, List.setIfInBounds_toArray, List.set_cons_zero, List.set_cons_succ, i64_w, i32_w]
             rfl
            refine pure_ (i := 6) (N := some 125) (v := ?_) (a' := ?_) #[true, true, true, true, false, true, true, false, false, false, false, false, false, false] rfl rfl (any_of HT_.out (by kernel_rfl)) (fun _ _ _ h => h) (Or.inl ⟨by rfl, ?_⟩) ?_ ?_
            rotate_left
            ·intro w'
             go_simp
             with_reducible rfl
            rotate_left
            ·simp only [Act.put, List.setIfInBounds_toArray, List.set_cons_zero, List.set_cons_succ, i64_w, i32_w]
             rfl
            refine pure_ (i := 7) (N := some 126) (v := ?_) (a' := ?_) #[true, true, true, true, false, true, true, true, false, false, false, false, false, false] rfl rfl (any_of HT_.out (by kernel_rfl)) (fun _ _ _ h => h) (Or.inl ⟨by rfl, ?_⟩) ?_ ?_
            rotate_left
            ·intro w'
             go_simp
             with_reducible rfl
            rotate_left
            ·simp only [Act.put, List.setIfInBounds_toArray, List.set_cons_zero, List.set_cons_succ, i64_w, i32_w]
             rfl
            refine pure_ (i := 8) (N := some 127) (v := ?_) (a' := ?_) #[true, true, true, true, false, true, true, true, true, false, false, false, false, false] rfl rfl (any_of HT_.out (by kernel_rfl)) (fun _ _ _ h => h) (Or.inl ⟨by rfl, ?_⟩) ?_ ?_
            rotate_left
            ·intro w'
             go_simp
             with_reducible rfl
            rotate_left
            ·simp only [Act.put, List.setIfInBounds_toArray, List.set_cons_zero, List.set_cons_succ, i64_w, i32_w]
             rfl
            refine take_ (i := 4) (N := some 123) (v := ?_) (a' := ?_) #[true, true, true, true, true, true, true, true, true, false, false, false, false, false] rfl rfl (take_ofW HT_.out HW_.out (by kernel_rfl)) (fun _ _ _ h => h) (Or.inl ⟨by rfl, ?_⟩) hHeld ?_ ?_
            rotate_left
            ·rintro w' ⟨s0, s1⟩
             go_simp
             with_reducible rfl
            rotate_left
            ·simp only [Act.put, List.setIfInBounds_toArray, List.set_cons_zero, List.set_cons_succ, i64_w, i32_w]
             rfl
            refine take_ (i := 9) (N := some 128) (v := ?_) (a' := ?_) #[true, true, true, true, true, true, true, true, true, true, false, false, false, false] rfl rfl (take_ofW HT_.out HW_.out (by kernel_rfl)) (fun _ _ _ h => h) (Or.inl ⟨by rfl, ?_⟩) hHeld ?_ ?_
            rotate_left
            ·rintro w' ⟨s0, s1⟩
             go_simp
             with_reducible rfl
            rotate_left
            ·simp only [Act.put, List.setIfInBounds_toArray, List.set_cons_zero, List.set_cons_succ, i64_w, i32_w]
             rfl
            refine pure_ (i := 10) (N := some 129) (v := ?_) (a' := ?_) #[true, true, true, true, true, true, true, true, true, true, true, false, false, false] rfl rfl (any_of HT_.out (by kernel_rfl)) (fun _ _ _ h => h) (Or.inl ⟨by rfl, ?_⟩) ?_ ?_
            rotate_left
            ·intro w'
             go_simp
             with_reducible rfl
            rotate_left
            ·simp only [Act.put, List.setIfInBounds_toArray, List.set_cons_zero, List.set_cons_succ, i64_w, i32_w]
             rfl
            refine pure_ (i := 11) (N := some 130) (v := ?_) (a' := ?_) #[true, true, true, true, true, true, true, true, true, true, true, true, false, false] rfl rfl (any_of HT_.out (by kernel_rfl)) (fun _ _ _ h => h) (Or.inl ⟨by rfl, ?_⟩) ?_ ?_
            rotate_left
            ·intro w'
             go_simp
             with_reducible rfl
            rotate_left
            ·simp only [Act.put, List.setIfInBounds_toArray, List.set_cons_zero, List.set_cons_succ, i64_w, i32_w]
             rfl
            refine one_ (i := 12) (N := some 131) #[true, true, true, true, true, true, true, true, true, true, true, true, true, false] rfl rfl (one_of HT_.out (by kernel_rfl)) (by decide) (fun K hK => ?_)
            refine goes_ Try.func74 (by kernel_rfl) rfl #[.slice Ao72 x5_1.length co72, .int .u64 (IntKind.u64.wrap (wrap64 ((rd t171 x12_1) - (rd t171 (ji67)))))] (by rfl) rfl rfl (by (try simp only [lm]); rfl) ?_
            with_reducible refine (e_count.calls k1 (fun k_ => some k_ = (.slice Ao72 x5_1.length co72 : Value).ownBlock) (.slice Ao72 x5_1.length co72) x5_1 (IntKind.u64.wrap (wrap64 ((rd t171 x12_1) - (rd t171 (ji67))))) t186 w _ ?side1 ?side2 A70.out).mono ?_
            (case side1 => exact HB.out)
            (case side2 => exact Kd.R_tight rfl HO_5.out)
            rintro e w73 ⟨v187, rfl, ho0, hb, hkp⟩
            have HS0_ := cell_kept (hHeld.1) hkp (by (rw [add_block]; exact (fun hs_ => ((((Kd.R_apart' HO_10.out (Kd.R_typed HO_5.out) (by decide))).1 _ rfl).2) hs_)))
            have HS1_ := cell_kept (hHeld.2) hkp (by (rw [add_block]; exact (fun hs_ => ((((Kd.R_apart' HO_10.out (Kd.R_typed HO_5.out) (by decide))).1 _ rfl).2) hs_)))
            refine ⟨_, rfl, ?_⟩
            have n0_ := Ak (Kd.R_mono (ok' := fun k_ => some k_ ≠ (v175 : Value).ownBlock) (Kd.R_keptB ((Kd.R_apart' HO_10.out (Kd.R_typed HO_5.out) (by decide))) hkp (fun k_ hk_ hs_ => (hk_.2) hs_)) (fun k_ hk_ => hk_.1.1))
            have n1_ := Ak (Kd.R_mono (ok' := fun k_ => some k_ ≠ (.slice (some ad180) t171.length co60 : Value).ownBlock) (Kd.R_keptB ((Kd.R_apart' HO_11.out (Kd.R_typed HO_5.out) (by decide))) hkp (fun k_ hk_ hs_ => (hk_.2) hs_)) (fun k_ hk_ => hk_.1.1))
            have n2_ := Ak (Kd.R_mono (ok' := fun k_ => True) ho0 (fun k_ hk_ => trivial))
            have n3_ := Ak (hb)
            clear HO_10 HO_11 HB HO_5
            have HO_10 := n0_
            have HO_11 := n1_
            have HO188 := n2_
            have HB := n3_
            clear n0_ n1_ n2_ n3_
            (try clear hb)
            (try clear hkp)
            (try clear ho0)
            refine hK.out _ _ ⟨HS0_, HS1_⟩ (fun hHeld => ?_)
            clear hK K
            refine norm_ (a' := ?_) ?_ ?_
            rotate_left
            ·show Act.put _ (some 131) _ = _
             simp only [Act.put, List.setIfInBounds_toArray, List.set_cons_zero, List.set_cons_succ, i64_w, i32_w]
             rfl
            refine pure_ (i := 13) (N := some 5) (v := ?_) (a' := ?_) #[true, true, true, true, true, true, true, true, true, true, true, true, true, true] rfl rfl (any_of HT_.out (by kernel_rfl)) (fun _ _ _ h => h) (Or.inl ⟨by rfl, ?_⟩) ?_ ?_
            rotate_left
            ·intro w'
             go_simp
             with_reducible rfl
            rotate_left
            ·simp only [Act.put, List.setIfInBounds_toArray, List.set_cons_zero, List.set_cons_succ, i64_w, i32_w]
             rfl
            refine done_ (done_of HT_.out (by kernel_rfl)) ?_
            try go_wp2
            go_roundg k1
            case measure => have := HK1.out; omega
            case rel => exact ⟨(t186), (wrap64 (x12_1 + 1)), (by rfl), H', ⟨by have := HK1.out; omega⟩, ⟨by exact HO188.out⟩, ⟨by exact HO_10.out⟩, ⟨by exact HO_11.out⟩, ⟨by exact HB.out⟩⟩
           ·rw [if_neg c69] at H
            exact absurd H (by simp)
          ·rw [if_neg c68] at H
           exact absurd H (by simp)
         ·rw [if_neg c66] at H
          exact absurd H (by simp)
        ·rw [if_neg c65] at H
         have c65b0 : decide (x12_1 < (t171.length : Int)) = false := decide_eq_false c65
         clear c65
         replace H := Option.bind_eq_some_iff.mp H
         obtain ⟨t189, A740, H⟩ := H
         replace H : ((e_packed.f k1 x5_1 t172 t189).bind fun t190 => (some t190)) = some r := H
         have A74 := Ak A740
         clear A740
         replace H := Option.bind_eq_some_iff.mp H
         obtain ⟨t190, A750, H⟩ := H
         replace H : (some t190) = some r := H
         have A75 := Ak A750
         clear A750
         obtain rfl := Option.some.inj H
         go_wp2_with (first | ((with_reducible refine gate_callee (f := 78) rfl ?_); refine goesL_ (some 137) rfl rfl Try.func78 (by kernel_rfl) rfl #[.int .i64 (wrap64 ((t171.length : Int) - 1))] rfl (by (try simp only [lm]); rfl) ?_; (with_reducible refine (e_widthOf.calls (wrap64 ((t171.length : Int) - 1)) t189 _ A74.out).mono ?_); rintro e w' ⟨rfl, ⟨nd, rfl⟩⟩; refine ⟨_, rfl, ?_⟩; obtain ⟨Ao76, co76, eo76⟩ := Kd.R_slice HO_5.out; subst eo76; obtain ⟨Ao77, co77, eo77⟩ := Kd.R_slice HO_11.out; subst eo77) | ((with_reducible refine gate_callee (f := 77) rfl ?_); refine goesL_ (some 138) rfl rfl Try.func77 (by kernel_rfl) rfl #[.slice Ao76 x5_1.length co76, .slice Ao77 t172.length co77, .int .i64 t189] rfl (by (try simp only [lm]); rfl) ?_; (with_reducible refine (e_packed.calls k1 (fun k_ => some k_ = (.slice Ao76 x5_1.length co76 : Value).ownBlock) (.slice Ao76 x5_1.length co76) x5_1 _ _ t172 t189 t190 w _ ?side1 ?side2 ?side3 ?side4 A75.out).mono ?_); (case side1 => repeat ((with_reducible first | exact HB.out | apply pw_below_drewN))); (case side2 => exact Kd.R_tight rfl HO_5.out); (case side3 => exact Kd.C_kept_own ((Kd.R_apart' HO_11.out (Kd.R_typed HO_5.out) (by decide))) (fun k_ hk_ hs_ => (hk_.2) hs_)); (case side4 => exact (Kd.R_reads' HO_11.out).2.1); rintro e w78 ⟨v191, rfl, ho0, hb, hkp⟩; refine ⟨_, rfl, ?_⟩; have n0_ := Ak (Kd.R_mono (ok' := fun k_ => some k_ ≠ (.slice Ao77 t172.length co77 : Value).ownBlock) (Kd.R_keptB ((Kd.R_apart' HO_10.out (Kd.R_typed HO_5.out) (by decide))) hkp (fun k_ hk_ hs_ => (hk_.2) hs_)) (fun k_ hk_ => hk_.1.1)); have n1_ := Ak (Kd.R_mono (ok' := fun k_ => some k_ ≠ (.slice (some ad180) t171.length co60 : Value).ownBlock) (Kd.R_keptB ((Kd.R_apart' HO_11.out (Kd.R_typed HO_5.out) (by decide))) hkp (fun k_ hk_ hs_ => (hk_.2) hs_)) (fun k_ hk_ => hk_.1.1)); have n2_ := Ak (Kd.R_mono (ok' := fun k_ => True) ho0 (fun k_ hk_ => trivial)); have n3_ := Ak (hb); clear HO_10 HO_11 HB HO_5; have HO_10 := n0_; have HO_11 := n1_; have HO192 := n2_; have HB := n3_; clear n0_ n1_ n2_ n3_; (try clear hb); (try clear hkp); (try clear ho0)))
         go_ret
         exact ⟨_, by rfl, by exact HO192.out, by exact HB.out⟩
     ·rw [if_neg c52] at H
      exact absurd H (by simp)
    ·rw [if_neg c49] at H
     have c49b0 : (a0 == 3) = false := beq_eq_false_iff_ne.mpr c49
     have c49b1 : (a0 != 3) = true := bne_iff_ne.mpr c49
     by_cases c79 : a0 = 4
     ·rw [if_pos c79] at H
      have c79b0 : (a0 == 4) = true := beq_iff_eq.mpr c79
      have c79b1 : (a0 != 4) = false := bne_eq_false_iff_eq.mpr c79
      clear c79
      replace H := Option.bind_eq_some_iff.mp H
      obtain ⟨t193, A800, H⟩ := H
      replace H : ((s_Max.f l1).bind fun t194 => ((s_Min.f l1).bind fun t195 => ((e_widthOf.f (wrap64 (t194 - t195))).bind fun t196 => ((e_number.f k t148 t193).bind fun t197 => (if t197.length < 140737488355328 then (e_encode.l4 k (t197 ++ [(t196) % 256]) t193 t196 ([] : List Int) l1 (l1.length : Int) 0) else (none)))))) = some r := H
      have A80 := Ak A800
      clear A800
      replace H := Option.bind_eq_some_iff.mp H
      obtain ⟨t194, A810, H⟩ := H
      replace H : ((s_Min.f l1).bind fun t195 => ((e_widthOf.f (wrap64 (t194 - t195))).bind fun t196 => ((e_number.f k t148 t193).bind fun t197 => (if t197.length < 140737488355328 then (e_encode.l4 k (t197 ++ [(t196) % 256]) t193 t196 ([] : List Int) l1 (l1.length : Int) 0) else (none))))) = some r := H
      have A81 := Ak A810
      clear A810
      replace H := Option.bind_eq_some_iff.mp H
      obtain ⟨t195, A820, H⟩ := H
      replace H : ((e_widthOf.f (wrap64 (t194 - t195))).bind fun t196 => ((e_number.f k t148 t193).bind fun t197 => (if t197.length < 140737488355328 then (e_encode.l4 k (t197 ++ [(t196) % 256]) t193 t196 ([] : List Int) l1 (l1.length : Int) 0) else (none)))) = some r := H
      have A82 := Ak A820
      clear A820
      replace H := Option.bind_eq_some_iff.mp H
      obtain ⟨t196, A830, H⟩ := H
      replace H : ((e_number.f k t148 t193).bind fun t197 => (if t197.length < 140737488355328 then (e_encode.l4 k (t197 ++ [(t196) % 256]) t193 t196 ([] : List Int) l1 (l1.length : Int) 0) else (none))) = some r := H
      have A83 := Ak A830
      clear A830
      replace H := Option.bind_eq_some_iff.mp H
      obtain ⟨t197, A840, H⟩ := H
      replace H : (if t197.length < 140737488355328 then (e_encode.l4 k (t197 ++ [(t196) % 256]) t193 t196 ([] : List Int) l1 (l1.length : Int) 0) else (none)) = some r := H
      have A84 := Ak A840
      clear A840
      by_cases c85 : t197.length < 140737488355328
      ·rw [if_pos c85] at H
       have LMc85 := Ak c85
       clear c85
       obtain ⟨y200, hy200⟩ : ∃ y_ : List Int, y_ = (t197 ++ [(t196) % 256]) := ⟨_, rfl⟩
       replace H : (e_encode.l4 k y200 t193 t196 ([] : List Int) l1 (l1.length : Int) 0) = some r := by (rw [hy200]; with_reducible exact H)
       have Ny200 := Ak hy200
       clear hy200
       have H' := Ak H
       clear H
       go_enter Try.func53, Try.ntmps53
       go_wp2_with (first | ((with_reducible refine gate_dst (N := 23) rfl ?_); refine Kd.R_lit (Kd.int .u8) _ 5 ?hg (N := 23) ?hd (xs := ([(a0) % 256] : List Int)) (inner := [.int .u8 ((a0) % 256)]) (ok := fun _ => True) (okp := fun _ => True) ?hr ?hp (fun _ hk => hk) trivial (Below.refl _ _) (Nat.le_refl _) (by simp) ?_; (case hd => rfl); (case hg => rfl); (case hr => (go_simp; done)); (case hp => exact (Reps.one (show Kd.M (Kd.int .u8) _ _ _ ((a0) % 256) [.int .u8 ((a0) % 256)] from rfl) (Reps.none _ _))); intro v146 w86 ho87 hb hg_ hnew_; clear hg_ hnew_; (rw [← Ny145.out] at ho87); have n0_ := Ak (Kd.R_lower ho87 (below_size (by exact HB.out))); have n1_ := Ak (below_step (by exact HB.out) hb); clear HB; have HO147 := n0_; have HB := n1_; clear n0_ n1_ hb ho87; obtain ⟨Ao88, co88, eo88⟩ := Kd.R_slice HO147.out; subst eo88) | ((with_reducible refine gate_callee (f := 74) rfl ?_); refine goesL_ (some 27) rfl rfl Try.func74 (by kernel_rfl) rfl #[.slice Ao88 y145.length co88, .int .u64 (IntKind.u64.wrap ((l1.length : Int)))] rfl (by (try simp only [lm]); rfl) ?_; (with_reducible refine (e_count.calls k (fun k_ => some k_ = (.slice Ao88 y145.length co88 : Value).ownBlock) (.slice Ao88 y145.length co88) y145 (IntKind.u64.wrap ((l1.length : Int))) t148 w _ ?side1 ?side2 A3.out).mono ?_); (case side1 => exact HB.out); (case side2 => exact Kd.R_tight rfl HO147.out); rintro e w89 ⟨v149, rfl, ho0, hb, hkp⟩; refine ⟨_, rfl, ?_⟩; have n0_ := Ak (Kd.R_mono (ok' := fun k_ => True) ho0 (fun k_ hk_ => trivial)); have n1_ := Ak (hb); clear HB HO147; have HO150 := n0_; have HB := n1_; clear n0_ n1_; (try clear hb); (try clear hkp); (try clear ho0)) | ((with_reducible refine gate_callee (f := 30) rfl ?_); refine goesL_ (some 142) rfl rfl Try.func30 (by kernel_rfl) rfl #[.slice A1 l1.length c1] rfl (by (try simp only [lm]); rfl) ?_; (with_reducible refine (s_Min.calls _ _ l1 t193 _ ?side1 ?side2 A80.out).mono ?_); (case side1 => repeat (exact (Kd.C_below HR1.out HB.out))); (case side2 => exact HC1.out); rintro e w' ⟨rfl, ⟨nd, rfl⟩⟩; refine ⟨_, rfl, ?_⟩) | ((with_reducible refine gate_callee (f := 31) rfl ?_); refine goesL_ (some 144) rfl rfl Try.func31 (by kernel_rfl) rfl #[.slice A1 l1.length c1] rfl (by (try simp only [lm]); rfl) ?_; (with_reducible refine (s_Max.calls _ _ l1 t194 _ ?side1 ?side2 A81.out).mono ?_); (case side1 => repeat (exact (Kd.C_below HR1.out (by repeat ((with_reducible first | exact HB.out | apply pw_below_drewN)))))); (case side2 => exact HC1.out); rintro e w' ⟨rfl, ⟨nd, rfl⟩⟩; refine ⟨_, rfl, ?_⟩) | ((with_reducible refine gate_callee (f := 30) rfl ?_); refine goesL_ (some 146) rfl rfl Try.func30 (by kernel_rfl) rfl #[.slice A1 l1.length c1] rfl (by (try simp only [lm]); rfl) ?_; (with_reducible refine (s_Min.calls _ _ l1 t195 _ ?side1 ?side2 A82.out).mono ?_); (case side1 => repeat (exact (Kd.C_below HR1.out (by repeat ((with_reducible first | exact HB.out | apply pw_below_drewN)))))); (case side2 => exact HC1.out); rintro e w' ⟨rfl, ⟨nd, rfl⟩⟩; refine ⟨_, rfl, ?_⟩) | ((with_reducible refine gate_callee (f := 78) rfl ?_); refine goesL_ (some 148) rfl rfl Try.func78 (by kernel_rfl) rfl #[.int .i64 (wrap64 (t194 - t195))] rfl (by (try simp only [lm]); rfl) ?_; (with_reducible refine (e_widthOf.calls (wrap64 (t194 - t195)) t196 _ A83.out).mono ?_); rintro e w' ⟨rfl, ⟨nd, rfl⟩⟩; refine ⟨_, rfl, ?_⟩; obtain ⟨Ao90, co90, eo90⟩ := Kd.R_slice HO150.out; subst eo90) | ((with_reducible refine gate_callee (f := 75) rfl ?_); refine goesL_ (some 151) rfl rfl Try.func75 (by kernel_rfl) rfl #[.slice Ao90 t148.length co90, .int .i64 t193] rfl (by (try simp only [lm]); rfl) ?_; (with_reducible refine (e_number.calls k (fun k_ => some k_ = (.slice Ao90 t148.length co90 : Value).ownBlock) (.slice Ao90 t148.length co90) t148 t193 t197 w _ ?side1 ?side2 A84.out).mono ?_); (case side1 => repeat ((with_reducible first | exact HB.out | apply pw_below_drewN))); (case side2 => exact Kd.R_tight rfl HO150.out); rintro e w91 ⟨v198, rfl, ho0, hb, hkp⟩; refine ⟨_, rfl, ?_⟩; have n0_ := Ak (Kd.R_mono (ok' := fun k_ => True) ho0 (fun k_ hk_ => trivial)); have n1_ := Ak (hb); clear HB HO150; have HO199 := n0_; have HB := n1_; clear n0_ n1_; (try clear hb); (try clear hkp); (try clear ho0)) | ((with_reducible refine gate_builtin (b := .append) (xs := #[.tmp 151, .tmp 154]) rfl ?_); at_builtin; refine Kd.R_append (Kd.int .u8) (w0 := w) w.heap.size rfl (.tmp 151) (.tmp 154) 27 5 (.int .u8 0) 1 rfl Try.underlying27 info5 rfl (by decide) (by omega) v198 t197 ((t196) % 256) [.int .u8 ((t196) % 256)] (fun _ => True) (fun _ => False) rfl rfl ?aP (fun _ hk => hk.elim) ?aF ?aO ?aB ?aS ?aL ?_; (case aP => exact rfl); (case aB => exact (by exact HB.out)); (case aF => exact (fun _ _ => trivial)); (case aO => exact (by exact HO199.out)); (case aS => exact (below_size (by exact HB.out))); (case aL => have := LMc85.out; omega); intro v201 w92 ho hb hg hat; rw [← Ny200.out] at ho; have n0_ := Ak (hb); have n1_ := Ak (ho); clear HB HO199; have HB := n0_; have HO202 := n1_; clear n0_ n1_ ho hb hg hat))
       go_loopg [15, 158] k (fun kq v15 v158 w' => ∃ (x15_1 : List Int) (x158_1 : Int), v158 = .int .i64 x158_1 ∧ Aside0 (e_encode.l4 kq y200 t193 t196 x15_1 l1 (l1.length : Int) x158_1 = some r) ∧ Aside0 (kq ≤ k) ∧ Aside0 (Kd.R (Kd.int .u8) 5 w' w.heap.size (fun _ => True) v201 y200) ∧ Aside0 (Kd.R (Kd.int .i64) 3 w' w.heap.size (fun _ => True) v15 x15_1) ∧ Aside0 (Below w.heap.size w w'))
       case atStart => exact ⟨(([] : List Int)), (0), (by rfl), H', ⟨Nat.le_refl _⟩, ⟨by exact HO202.out⟩, ⟨by exact Kd.R_nil _ _ _ _ _⟩, ⟨by exact HB.out⟩⟩
       case round =>
        clear H'
        try clear c4
        try clear c20
        try clear c20b0
        try clear c20b1
        try clear c49
        try clear c49b0
        try clear c49b1
        try clear c79b0
        try clear c79b1
        obtain ⟨x15_1, x158_1, rfl, HA, HK1, HO_5, HO_15, HB⟩ := hrel
        cases gk with
        | zero => exact absurd HA.out (by simp [e_encode.l4])
        | succ k1 =>
         have H := HA.out
         clear HA
         simp only [e_encode.l4] at H
         by_cases c93 : x158_1 < (l1.length : Int)
         ·rw [if_pos c93] at H
          have c93b0 : decide (x158_1 < (l1.length : Int)) = true := decide_eq_true c93
          clear c93
          by_cases c94 : 0 ≤ x158_1
          ·rw [if_pos c94] at H
           have c94b0 : decide (0 ≤ x158_1) = true := decide_eq_true c94
           clear c94
           by_cases c95 : x158_1 < (l1.length : Int)
           ·rw [if_pos c95] at H
            have c95b0 : decide (x158_1 < (l1.length : Int)) = true := decide_eq_true c95
            clear c95
            by_cases c96 : x15_1.length < 17592186044416
            ·rw [if_pos c96] at H
             have LMc96 := Ak c96
             clear c96
             obtain ⟨y204, hy204⟩ : ∃ y_ : List Int, y_ = (x15_1 ++ [wrap64 ((rd l1 x158_1) - t193)]) := ⟨_, rfl⟩
             replace H : (e_encode.l4 k1 y200 t193 t196 y204 l1 (l1.length : Int) (wrap64 (x158_1 + 1))) = some r := by (rw [hy204]; with_reducible exact H)
             have Ny204 := Ak hy204
             clear hy204
             have H' := Ak H
             clear H
             have p203 : 0 ≤ (x158_1 : Int) := of_decide_eq_true (by (with_reducible assumption))
             have q203 : x158_1 < (l1.length : Int) := of_decide_eq_true (by (with_reducible assumption))
             obtain ⟨ad203, e203, hx203_0⟩ := Kd.at_int HR1.out x158_1 p203 q203
             cases e203
             replace hx203_0 := (HB.out.cell (World.block_lt_of_cell? w _ hx203_0)).trans hx203_0
             replace p203 := eq_true p203
             replace q203 := eq_true q203
             go_wp2_with (first | ((with_reducible refine gate_builtin (b := .append) (xs := #[.tmp 162, .tmp 166]) rfl ?_); at_builtin; refine Kd.R_append (Kd.int .i64) (w0 := w) w.heap.size rfl (.tmp 162) (.tmp 166) 22 3 (.int .i64 0) 8 rfl Try.underlying22 info3 rfl (by decide) (by omega) u15 x15_1 (wrap64 ((rd l1 x158_1) - t193)) [.int .i64 (wrap64 ((rd l1 x158_1) - t193))] (fun _ => True) (fun _ => False) rfl rfl ?aP (fun _ hk => hk.elim) ?aF ?aO ?aB ?aS ?aL ?_; (case aP => exact rfl); (case aB => exact (by exact HB.out)); (case aF => exact (fun _ _ => trivial)); (case aO => exact (by exact HO_15.out)); (case aS => exact (below_size (by exact HB.out))); (case aL => have := LMc96.out; omega); intro v205 w97 ho hb hg hat; rw [← Ny204.out] at ho; have n0_ := Ak (Kd.R_over' (by exact HO_5.out) (Kd.R_typed (by exact HO_15.out)) (by decide) hg); have n1_ := Ak (hb); have n2_ := Ak (ho); clear HO_5 HB HO_15; have HO_5 := n0_; have HB := n1_; have HO206 := n2_; clear n0_ n1_ n2_ ho hb hg hat))
             go_roundg k1
             case measure => have := HK1.out; omega
             case rel => exact ⟨(y204), (wrap64 (x158_1 + 1)), (by rfl), H', ⟨by have := HK1.out; omega⟩, ⟨by exact HO_5.out⟩, ⟨by exact HO206.out⟩, ⟨by exact HB.out⟩⟩
            ·rw [if_neg c96] at H
             exact absurd H (by simp)
           ·rw [if_neg c95] at H
            exact absurd H (by simp)
          ·rw [if_neg c94] at H
           exact absurd H (by simp)
         ·rw [if_neg c93] at H
          have c93b0 : decide (x158_1 < (l1.length : Int)) = false := decide_eq_false c93
          clear c93
          replace H := Option.bind_eq_some_iff.mp H
          obtain ⟨t207, A980, H⟩ := H
          replace H : (some t207) = some r := H
          have A98 := Ak A980
          clear A980
          obtain rfl := Option.some.inj H
          obtain ⟨Ao99, co99, eo99⟩ := Kd.R_slice HO_5.out
          subst eo99
          obtain ⟨Ao100, co100, eo100⟩ := Kd.R_slice HO_15.out
          subst eo100
          go_wp2_with (first | ((with_reducible refine gate_callee (f := 77) rfl ?_); refine goesL_ (some 172) rfl rfl Try.func77 (by kernel_rfl) rfl #[.slice Ao99 y200.length co99, .slice Ao100 x15_1.length co100, .int .i64 t196] rfl (by (try simp only [lm]); rfl) ?_; (with_reducible refine (e_packed.calls k1 (fun k_ => some k_ = (.slice Ao99 y200.length co99 : Value).ownBlock) (.slice Ao99 y200.length co99) y200 _ _ x15_1 t196 t207 w _ ?side1 ?side2 ?side3 ?side4 A98.out).mono ?_); (case side1 => exact HB.out); (case side2 => exact Kd.R_tight rfl HO_5.out); (case side3 => exact Kd.C_kept_own ((Kd.R_apart' HO_15.out (Kd.R_typed HO_5.out) (by decide))) (fun k_ hk_ hs_ => (hk_.2) hs_)); (case side4 => exact (Kd.R_reads' HO_15.out).2.1); rintro e w101 ⟨v208, rfl, ho0, hb, hkp⟩; refine ⟨_, rfl, ?_⟩; have n0_ := Ak (Kd.R_mono (ok' := fun k_ => True) (Kd.R_keptB ((Kd.R_apart' HO_15.out (Kd.R_typed HO_5.out) (by decide))) hkp (fun k_ hk_ hs_ => (hk_.2) hs_)) (fun k_ hk_ => trivial)); have n1_ := Ak (Kd.R_mono (ok' := fun k_ => True) ho0 (fun k_ hk_ => trivial)); have n2_ := Ak (hb); clear HO_15 HB HO_5; have HO_15 := n0_; have HO209 := n1_; have HB := n2_; clear n0_ n1_ n2_; (try clear hb); (try clear hkp); (try clear ho0)))
          go_ret
          exact ⟨_, by rfl, by exact HO209.out, by exact HB.out⟩
      ·rw [if_neg c85] at H
       exact absurd H (by simp)
     ·rw [if_neg c79] at H
      have c79b0 : (a0 == 4) = false := beq_eq_false_iff_ne.mpr c79
      have c79b1 : (a0 != 4) = true := bne_iff_ne.mpr c79
      have H' := Ak H
      clear H
      go_enter Try.func53, Try.ntmps53
      go_wp2_with (first | ((with_reducible refine gate_dst (N := 23) rfl ?_); refine Kd.R_lit (Kd.int .u8) _ 5 ?hg (N := 23) ?hd (xs := ([(a0) % 256] : List Int)) (inner := [.int .u8 ((a0) % 256)]) (ok := fun _ => True) (okp := fun _ => True) ?hr ?hp (fun _ hk => hk) trivial (Below.refl _ _) (Nat.le_refl _) (by simp) ?_; (case hd => rfl); (case hg => rfl); (case hr => (go_simp; done)); (case hp => exact (Reps.one (show Kd.M (Kd.int .u8) _ _ _ ((a0) % 256) [.int .u8 ((a0) % 256)] from rfl) (Reps.none _ _))); intro v146 w102 ho103 hb hg_ hnew_; clear hg_ hnew_; (rw [← Ny145.out] at ho103); have n0_ := Ak (Kd.R_lower ho103 (below_size (by exact HB.out))); have n1_ := Ak (below_step (by exact HB.out) hb); clear HB; have HO147 := n0_; have HB := n1_; clear n0_ n1_ hb ho103; obtain ⟨Ao104, co104, eo104⟩ := Kd.R_slice HO147.out; subst eo104) | ((with_reducible refine gate_callee (f := 74) rfl ?_); refine goesL_ (some 27) rfl rfl Try.func74 (by kernel_rfl) rfl #[.slice Ao104 y145.length co104, .int .u64 (IntKind.u64.wrap ((l1.length : Int)))] rfl (by (try simp only [lm]); rfl) ?_; (with_reducible refine (e_count.calls k (fun k_ => some k_ = (.slice Ao104 y145.length co104 : Value).ownBlock) (.slice Ao104 y145.length co104) y145 (IntKind.u64.wrap ((l1.length : Int))) t148 w _ ?side1 ?side2 A3.out).mono ?_); (case side1 => exact HB.out); (case side2 => exact Kd.R_tight rfl HO147.out); rintro e w105 ⟨v149, rfl, ho0, hb, hkp⟩; refine ⟨_, rfl, ?_⟩; have n0_ := Ak (Kd.R_mono (ok' := fun k_ => True) ho0 (fun k_ hk_ => trivial)); have n1_ := Ak (hb); clear HB HO147; have HO150 := n0_; have HB := n1_; clear n0_ n1_; (try clear hb); (try clear hkp); (try clear ho0)))
      go_loopg [5, 18, 35] k (fun kq v5 v18 v35 w' => ∃ (x5_1 : List Int) (x18_1 : Int) (x35_1 : Int), v18 = .int .i64 x18_1 ∧ v35 = .int .i64 x35_1 ∧ Aside0 (e_encode.l5 kq x5_1 x18_1 l1 (l1.length : Int) x35_1 = some r) ∧ Aside0 (kq ≤ k) ∧ Aside0 (Kd.R (Kd.int .u8) 5 w' w.heap.size (fun _ => True) v5 x5_1) ∧ Aside0 (Below w.heap.size w w'))
      case atStart => exact ⟨(t148), (0), (0), (by rfl), (by rfl), H', ⟨Nat.le_refl _⟩, ⟨by exact HO150.out⟩, ⟨by exact HB.out⟩⟩
      case round =>
       clear H'
       try clear c4
       try clear c9
       try clear c20
       try clear c20b0
       try clear c20b1
       try clear c49
       try clear c49b0
       try clear c49b1
       try clear c79
       try clear c79b0
       try clear c79b1
       obtain ⟨x5_1, x18_1, x35_1, rfl, rfl, HA, HK1, HO_5, HB⟩ := hrel
       cases gk with
       | zero => exact absurd HA.out (by simp [e_encode.l5])
       | succ k1 =>
        have H := HA.out
        clear HA
        simp only [e_encode.l5] at H
        by_cases c106 : x35_1 < (l1.length : Int)
        ·rw [if_pos c106] at H
         have c106b0 : decide (x35_1 < (l1.length : Int)) = true := decide_eq_true c106
         clear c106
         by_cases c107 : 0 ≤ x35_1
         ·rw [if_pos c107] at H
          have c107b0 : decide (0 ≤ x35_1) = true := decide_eq_true c107
          clear c107
          by_cases c108 : x35_1 < (l1.length : Int)
          ·rw [if_pos c108] at H
           have c108b0 : decide (x35_1 < (l1.length : Int)) = true := decide_eq_true c108
           clear c108
           replace H := Option.bind_eq_some_iff.mp H
           obtain ⟨t211, A1090, H⟩ := H
           replace H : (e_encode.l5 k1 t211 (rd l1 x35_1) l1 (l1.length : Int) (wrap64 (x35_1 + 1))) = some r := H
           have A109 := Ak A1090
           clear A1090
           have H' := Ak H
           clear H
           have p210 : 0 ≤ (x35_1 : Int) := of_decide_eq_true (by (with_reducible assumption))
           have q210 : x35_1 < (l1.length : Int) := of_decide_eq_true (by (with_reducible assumption))
           obtain ⟨ad210, e210, hx210_0⟩ := Kd.at_int HR1.out x35_1 p210 q210
           cases e210
           replace hx210_0 := (HB.out.cell (World.block_lt_of_cell? w _ hx210_0)).trans hx210_0
           replace p210 := eq_true p210
           replace q210 := eq_true q210
           obtain ⟨Ao110, co110, eo110⟩ := Kd.R_slice HO_5.out
           subst eo110
           go_wp2_with (first | ((with_reducible refine gate_callee (f := 75) rfl ?_); refine goesL_ (some 43) rfl rfl Try.func75 (by kernel_rfl) rfl #[.slice Ao110 x5_1.length co110, .int .i64 (wrap64 ((rd l1 x35_1) - x18_1))] rfl (by (try simp only [lm]); rfl) ?_; (with_reducible refine (e_number.calls k1 (fun k_ => some k_ = (.slice Ao110 x5_1.length co110 : Value).ownBlock) (.slice Ao110 x5_1.length co110) x5_1 (wrap64 ((rd l1 x35_1) - x18_1)) t211 w _ ?side1 ?side2 A109.out).mono ?_); (case side1 => exact HB.out); (case side2 => exact Kd.R_tight rfl HO_5.out); rintro e w111 ⟨v212, rfl, ho0, hb, hkp⟩; refine ⟨_, rfl, ?_⟩; have n0_ := Ak (Kd.R_mono (ok' := fun k_ => True) ho0 (fun k_ hk_ => trivial)); have n1_ := Ak (hb); clear HB HO_5; have HO213 := n0_; have HB := n1_; clear n0_ n1_; (try clear hb); (try clear hkp); (try clear ho0)))
           go_roundg k1
           case measure => have := HK1.out; omega
           case rel => exact ⟨(t211), (rd l1 x35_1), (wrap64 (x35_1 + 1)), (by rfl), (by rfl), H', ⟨by have := HK1.out; omega⟩, ⟨by exact HO213.out⟩, ⟨by exact HB.out⟩⟩
          ·rw [if_neg c108] at H
           exact absurd H (by simp)
         ·rw [if_neg c107] at H
          exact absurd H (by simp)
        ·rw [if_neg c106] at H
         have c106b0 : decide (x35_1 < (l1.length : Int)) = false := decide_eq_false c106
         clear c106
         obtain rfl := Option.some.inj H
         go_wp2
         go_ret
         exact ⟨_, by rfl, by exact HO_5.out, by exact HB.out⟩
def e_Encode.f (k : Nat) (a0 : Int) (l1 : List Int) : Option (List Int × Int) := (kit_In.f a0 1 5).bind fun t214 => (if t214 = true then ((e_check.f k l1).bind fun t215 => (if t215 = 0 then ((e_encode.f k a0 l1).bind fun t216 => (some (t216, 0))) else (some (([] : List Int), t215)))) else (some (([] : List Int), 4)))
theorem e_Encode.mono : ∀ a0 a1 k, LeO (e_Encode.f k a0 a1) (e_Encode.f (k + 1) a0 a1) := by
 intro a0 a1 k
 unfold e_Encode.f
 repeat' first
  | (with_reducible exact e_check.mono _ _)
  | (with_reducible exact e_encode.mono _ _ _)
  | (with_reducible exact LeO.refl _)
  | (with_reducible refine LeO.ite ?_ ?_)
  | (with_reducible refine LeO.bind ?_ (fun _ => ?_))
set_option maxHeartbeats 8000000 in
set_option maxRecDepth 100000 in
theorem e_Encode.calls (k : Nat) (a0 : Int) (A1 : Option Addr) (c1 : Nat) (l1 : List Int) (r1 : List Int) (r2 : Int) (w : World) (hr1 : Kd.C (Kd.int .i64) w A1 l1.length l1) (hc1 : l1.length ≤ c1) (h : e_Encode.f k a0 l1 = some (r1, r2)) :
 Calls Try.prog 14 #[.int .i64 a0, .slice A1 l1.length c1] w fun e w' => ∃ v0_ : Value, e = .returned (.tuple #[v0_, .int .i64 r2]) ∧ Kd.R (Kd.int .u8) 5 w' w.heap.size (fun _ => True) v0_ r1 ∧ Below w.heap.size w w' := by
 have HR1 := Ak hr1
 have HC1 := Ak hc1
 clear hr1 hc1
 have HB := Ak (Below.refl w.heap.size w)
 have H : ((kit_In.f a0 1 5).bind fun t214 => (if t214 = true then ((e_check.f k l1).bind fun t215 => (if t215 = 0 then ((e_encode.f k a0 l1).bind fun t216 => (some (t216, 0))) else (some (([] : List Int), t215)))) else (some (([] : List Int), 4)))) = some (r1, r2) := h
 clear h
 replace H := Option.bind_eq_some_iff.mp H
 obtain ⟨t214, A30, H⟩ := H
 replace H : (if t214 = true then ((e_check.f k l1).bind fun t215 => (if t215 = 0 then ((e_encode.f k a0 l1).bind fun t216 => (some (t216, 0))) else (some (([] : List Int), t215)))) else (some (([] : List Int), 4))) = some (r1, r2) := H
 have A3 := Ak A30
 clear A30
 by_cases c4 : t214 = true
 ·subst c4
  replace H : ((e_check.f k l1).bind fun t215 => (if t215 = 0 then ((e_encode.f k a0 l1).bind fun t216 => (some (t216, 0))) else (some (([] : List Int), t215)))) = some (r1, r2) := by rw [if_pos rfl] at H; exact H
  replace H := Option.bind_eq_some_iff.mp H
  obtain ⟨t215, A50, H⟩ := H
  replace H : (if t215 = 0 then ((e_encode.f k a0 l1).bind fun t216 => (some (t216, 0))) else (some (([] : List Int), t215))) = some (r1, r2) := H
  have A5 := Ak A50
  clear A50
  by_cases c6 : t215 = 0
  ·rw [if_pos c6] at H
   have c6b0 : (t215 == 0) = true := beq_iff_eq.mpr c6
   have c6b1 : (t215 != 0) = false := bne_eq_false_iff_eq.mpr c6
   clear c6
   replace H := Option.bind_eq_some_iff.mp H
   obtain ⟨t216, A70, H⟩ := H
   replace H : (some (t216, 0)) = some (r1, r2) := H
   have A7 := Ak A70
   clear A70
   simp only [Option.some.injEq, Prod.mk.injEq] at H
   obtain ⟨rfl, rfl⟩ := H
   go_enter Try.func14, Try.ntmps14
   go_wp2_with (first | ((with_reducible refine gate_callee (f := 52) rfl ?_); refine goesL_ (some 8) rfl rfl Try.func52 (by kernel_rfl) rfl #[.int .i64 a0, .int .i64 1, .int .i64 5] rfl (by (try simp only [lm]); rfl) ?_; (with_reducible refine (kit_In.calls a0 1 5 true _ A3.out).mono ?_); rintro e w' ⟨rfl, ⟨nd, rfl⟩⟩; refine ⟨_, rfl, ?_⟩) | ((with_reducible refine gate_callee (f := 50) rfl ?_); refine goesL_ (some 11) rfl rfl Try.func50 (by kernel_rfl) rfl #[.slice A1 l1.length c1] rfl (by (try simp only [lm]); rfl) ?_; (with_reducible refine (e_check.calls k _ _ l1 t215 _ ?side1 ?side2 A5.out).mono ?_); (case side1 => repeat (exact HR1.out)); (case side2 => exact HC1.out); rintro e w' ⟨rfl, ⟨nd, rfl⟩⟩; refine ⟨_, rfl, ?_⟩) | ((with_reducible refine gate_callee (f := 53) rfl ?_); refine goesL_ (some 17) rfl rfl Try.func53 (by kernel_rfl) rfl #[.int .i64 a0, .slice A1 l1.length c1] rfl (by (try simp only [lm]); rfl) ?_; (with_reducible refine (e_encode.calls k a0 _ _ l1 t216 _ ?side1 ?side2 A7.out).mono ?_); (case side1 => repeat (exact HR1.out)); (case side2 => exact HC1.out); rintro e w8 ⟨v217, rfl, ho0, hb⟩; refine ⟨_, rfl, ?_⟩; have n0_ := Ak (Kd.R_lower ho0 (below_size (by repeat ((with_reducible first | exact HB.out | apply pw_below_drewN))))); have n1_ := Ak (below_step (by repeat ((with_reducible first | exact HB.out | apply pw_below_drewN))) hb); clear HB; have HO218 := n0_; have HB := n1_; clear n0_ n1_; (try clear hb); (try clear ho0)))
   go_ret2
   exact ⟨_, by rfl, by exact HO218.out, by exact HB.out⟩
  ·rw [if_neg c6] at H
   have c6b0 : (t215 == 0) = false := beq_eq_false_iff_ne.mpr c6
   have c6b1 : (t215 != 0) = true := bne_iff_ne.mpr c6
   simp only [Option.some.injEq, Prod.mk.injEq] at H
   obtain ⟨rfl, rfl⟩ := H
   go_enter Try.func14, Try.ntmps14
   go_wp2_with (first | ((with_reducible refine gate_callee (f := 52) rfl ?_); refine goesL_ (some 8) rfl rfl Try.func52 (by kernel_rfl) rfl #[.int .i64 a0, .int .i64 1, .int .i64 5] rfl (by (try simp only [lm]); rfl) ?_; (with_reducible refine (kit_In.calls a0 1 5 true _ A3.out).mono ?_); rintro e w' ⟨rfl, ⟨nd, rfl⟩⟩; refine ⟨_, rfl, ?_⟩) | ((with_reducible refine gate_callee (f := 50) rfl ?_); refine goesL_ (some 11) rfl rfl Try.func50 (by kernel_rfl) rfl #[.slice A1 l1.length c1] rfl (by (try simp only [lm]); rfl) ?_; (with_reducible refine (e_check.calls k _ _ l1 t215 _ ?side1 ?side2 A5.out).mono ?_); (case side1 => repeat (exact HR1.out)); (case side2 => exact HC1.out); rintro e w' ⟨rfl, ⟨nd, rfl⟩⟩; refine ⟨_, rfl, ?_⟩))
   go_ret2
   exact ⟨_, by rfl, by exact Kd.R_nil _ _ _ _ _, by repeat ((with_reducible first | exact HB.out | apply pw_below_drewN))⟩
 ·replace c4 := Bool.eq_false_iff.mpr c4
  subst c4
  replace H : (some (([] : List Int), 4)) = some (r1, r2) := by rw [if_neg (show ¬ (false = true) by decide)] at H; exact H
  simp only [Option.some.injEq, Prod.mk.injEq] at H
  obtain ⟨rfl, rfl⟩ := H
  go_enter Try.func14, Try.ntmps14
  go_wp2_with (first | ((with_reducible refine gate_callee (f := 52) rfl ?_); refine goesL_ (some 8) rfl rfl Try.func52 (by kernel_rfl) rfl #[.int .i64 a0, .int .i64 1, .int .i64 5] rfl (by (try simp only [lm]); rfl) ?_; (with_reducible refine (kit_In.calls a0 1 5 false _ A3.out).mono ?_); rintro e w' ⟨rfl, ⟨nd, rfl⟩⟩; refine ⟨_, rfl, ?_⟩))
  go_ret2
  exact ⟨_, by rfl, by exact Kd.R_nil _ _ _ _ _, by repeat ((with_reducible first | exact HB.out | apply pw_below_drewN))⟩
def s_Equalb.l0 : Nat → List Int → List Int → Int → Int → Option (Bool)
 | 0, _, _, _, _ => none
 | k + 1, x0, x1, x12, x13 => if x13 < x12 then (if 0 ≤ x13 then (if x13 < (x0.length : Int) then (if x13 < (x1.length : Int) then (if (rd x0 x13) = (rd x1 x13) then (s_Equalb.l0 k x0 x1 x12 (wrap64 (x13 + 1))) else (some false)) else (none)) else (none)) else (none)) else (some true)
def s_Equalb.f (k : Nat) (l0 : List Int) (l1 : List Int) : Option (Bool) := if (l0.length : Int) = (l1.length : Int) then (s_Equalb.l0 k l0 l1 (l0.length : Int) 0) else (some false)
theorem s_Equalb.mono_l : ∀ k, (∀ y0 y1 y2 y3, LeO (s_Equalb.l0 k y0 y1 y2 y3) (s_Equalb.l0 (k + 1) y0 y1 y2 y3))
 | 0 => fun _ _ _ _ r h => by simp [s_Equalb.l0] at h
 | k + 1 => by
  have ih0 := s_Equalb.mono_l k
  ·intro y0 y1 y2 y3
   unfold s_Equalb.l0
   repeat' first
   | (with_reducible exact ih0 _ _ _ _)
   | (with_reducible exact LeO.refl _)
   | (with_reducible refine LeO.ite ?_ ?_)
theorem s_Equalb.mono : ∀ a0 a1 k, LeO (s_Equalb.f k a0 a1) (s_Equalb.f (k + 1) a0 a1) := by
 intro a0 a1 k
 have ih0 := s_Equalb.mono_l k
 unfold s_Equalb.f
 repeat' first
  | (with_reducible exact ih0 _ _ _ _)
  | (with_reducible exact LeO.refl _)
  | (with_reducible refine LeO.ite ?_ ?_)
set_option maxHeartbeats 8000000 in
set_option maxRecDepth 100000 in
theorem s_Equalb.calls (k : Nat) (A0 : Option Addr) (c0 : Nat) (l0 : List Int) (A1 : Option Addr) (c1 : Nat) (l1 : List Int) (r : Bool) (w : World) (hr0 : Kd.C (Kd.int .u8) w A0 l0.length l0) (hc0 : l0.length ≤ c0) (hr1 : Kd.C (Kd.int .u8) w A1 l1.length l1) (hc1 : l1.length ≤ c1) (h : s_Equalb.f k l0 l1 = some r) :
 Calls Try.prog 17 #[.slice A0 l0.length c0, .slice A1 l1.length c1] w fun e w' => e = .returned (.bool r) ∧ Drawn0 w w' := by
 have HR0 := Ak hr0
 have HC0 := Ak hc0
 clear hr0 hc0
 have HR1 := Ak hr1
 have HC1 := Ak hc1
 clear hr1 hc1
 have H : (if (l0.length : Int) = (l1.length : Int) then (s_Equalb.l0 k l0 l1 (l0.length : Int) 0) else (some false)) = some r := h
 clear h
 by_cases c3 : (l0.length : Int) = (l1.length : Int)
 ·rw [if_pos c3] at H
  have c3b0 : ((l0.length : Int) == (l1.length : Int)) = true := beq_iff_eq.mpr c3
  have c3b1 : ((l0.length : Int) != (l1.length : Int)) = false := bne_eq_false_iff_eq.mpr c3
  have c3b2 : (l0.length == l1.length) = true := by (simp at c3 ⊢; omega)
  clear c3
  have H' := Ak H
  clear H
  go_enter Try.func17, Try.ntmps17
  go_wp2
  repeat (go_quiet (fail); try go_wp2)
  go_loopg [13] k (fun kq v13 w' => ∃ (x13_1 : Int), v13 = .int .i64 x13_1 ∧ Aside0 (s_Equalb.l0 kq l0 l1 (l0.length : Int) x13_1 = some r) ∧ Aside0 (kq ≤ k) ∧ Drawn0 w w')
  case atStart => exact ⟨(0), (by rfl), H', ⟨Nat.le_refl _⟩, by repeat (exact Drawn0.refl _)⟩
  case round =>
   clear H'
   try clear c3b0
   try clear c3b1
   try clear c3b2
   obtain ⟨x13_1, rfl, HA, HK1, ⟨m1, rfl⟩⟩ := hrel
   cases gk with
   | zero => exact absurd HA.out (by simp [s_Equalb.l0])
   | succ k1 =>
    have H := HA.out
    clear HA
    simp only [s_Equalb.l0] at H
    by_cases c4 : x13_1 < (l0.length : Int)
    ·rw [if_pos c4] at H
     have c4b0 : decide (x13_1 < (l0.length : Int)) = true := decide_eq_true c4
     clear c4
     by_cases c5 : 0 ≤ x13_1
     ·rw [if_pos c5] at H
      have c5b0 : decide (0 ≤ x13_1) = true := decide_eq_true c5
      clear c5
      by_cases c6 : x13_1 < (l0.length : Int)
      ·rw [if_pos c6] at H
       have c6b0 : decide (x13_1 < (l0.length : Int)) = true := decide_eq_true c6
       clear c6
       by_cases c7 : x13_1 < (l1.length : Int)
       ·rw [if_pos c7] at H
        have c7b0 : decide (x13_1 < (l1.length : Int)) = true := decide_eq_true c7
        clear c7
        by_cases c8 : (rd l0 x13_1) = (rd l1 x13_1)
        ·rw [if_pos c8] at H
         have c8b0 : ((rd l0 x13_1) == (rd l1 x13_1)) = true := beq_iff_eq.mpr c8
         have c8b1 : ((rd l0 x13_1) != (rd l1 x13_1)) = false := bne_eq_false_iff_eq.mpr c8
         clear c8
         have H' := Ak H
         clear H
         have p219 : 0 ≤ (x13_1 : Int) := of_decide_eq_true (by (with_reducible assumption))
         have q219 : x13_1 < (l0.length : Int) := of_decide_eq_true (by (with_reducible assumption))
         obtain ⟨ad219, e219, hx219_0⟩ := Kd.at_int HR0.out x13_1 p219 q219
         cases e219
         replace p219 := eq_true p219
         replace q219 := eq_true q219
         have p220 : 0 ≤ (x13_1 : Int) := of_decide_eq_true (by (with_reducible assumption))
         have q220 : x13_1 < (l1.length : Int) := of_decide_eq_true (by (with_reducible assumption))
         obtain ⟨ad220, e220, hx220_0⟩ := Kd.at_int HR1.out x13_1 p220 q220
         cases e220
         replace p220 := eq_true p220
         replace q220 := eq_true q220
         go_wp2
         repeat (go_quiet (fail); try go_wp2)
         go_roundg k1
         case measure => have := HK1.out; omega
         case rel => exact ⟨(wrap64 (x13_1 + 1)), (by rfl), H', ⟨by have := HK1.out; omega⟩, by repeat (first | exact Drawn0.refl _ | apply Drawn0.step)⟩
        ·rw [if_neg c8] at H
         have c8b0 : ((rd l0 x13_1) == (rd l1 x13_1)) = false := beq_eq_false_iff_ne.mpr c8
         have c8b1 : ((rd l0 x13_1) != (rd l1 x13_1)) = true := bne_iff_ne.mpr c8
         obtain rfl := Option.some.inj H
         have p219 : 0 ≤ (x13_1 : Int) := of_decide_eq_true (by (with_reducible assumption))
         have q219 : x13_1 < (l0.length : Int) := of_decide_eq_true (by (with_reducible assumption))
         obtain ⟨ad219, e219, hx219_0⟩ := Kd.at_int HR0.out x13_1 p219 q219
         cases e219
         replace p219 := eq_true p219
         replace q219 := eq_true q219
         have p220 : 0 ≤ (x13_1 : Int) := of_decide_eq_true (by (with_reducible assumption))
         have q220 : x13_1 < (l1.length : Int) := of_decide_eq_true (by (with_reducible assumption))
         obtain ⟨ad220, e220, hx220_0⟩ := Kd.at_int HR1.out x13_1 p220 q220
         cases e220
         replace p220 := eq_true p220
         replace q220 := eq_true q220
         go_wp2
         repeat (go_quiet (fail); try go_wp2)
         go_ret
         exact ⟨by rfl, by repeat (first | exact Drawn0.refl _ | apply Drawn0.step)⟩
       ·rw [if_neg c7] at H
        exact absurd H (by simp)
      ·rw [if_neg c6] at H
       exact absurd H (by simp)
     ·rw [if_neg c5] at H
      exact absurd H (by simp)
    ·rw [if_neg c4] at H
     have c4b0 : decide (x13_1 < (l0.length : Int)) = false := decide_eq_false c4
     clear c4
     obtain rfl := Option.some.inj H
     go_wp2
     repeat (go_quiet (fail); try go_wp2)
     go_ret
     exact ⟨by rfl, by repeat (first | exact Drawn0.refl _ | apply Drawn0.step)⟩
 ·rw [if_neg c3] at H
  have c3b0 : ((l0.length : Int) == (l1.length : Int)) = false := beq_eq_false_iff_ne.mpr c3
  have c3b1 : ((l0.length : Int) != (l1.length : Int)) = true := bne_iff_ne.mpr c3
  have c3b2 : (l0.length == l1.length) = false := by (simp at c3 ⊢; omega)
  obtain rfl := Option.some.inj H
  go_enter Try.func17, Try.ntmps17
  go_wp2
  repeat (go_quiet (fail); try go_wp2)
  go_ret
  exact ⟨by rfl, by repeat (exact Drawn0.refl _)⟩
def peristylelaw2_awake.f (k : Nat)  : Option (Bool) := (e_Encode.f k 4 (([5, 5, 5, 7] : List Int))).bind fun bt224 => (if bt224.2 = 0 then ((s_Equalb.f k bt224.1 (([4, 4, 10, 2, 2] : List Int))).bind fun t231 => (some t231)) else (some false))
theorem peristylelaw2_awake.mono : ∀ k, LeO (peristylelaw2_awake.f k ) (peristylelaw2_awake.f (k + 1) ) := by
 intro  k
 unfold peristylelaw2_awake.f
 repeat' first
  | (with_reducible exact e_Encode.mono _ _ _)
  | (with_reducible exact s_Equalb.mono _ _ _)
  | (with_reducible exact LeO.refl _)
  | (with_reducible refine LeO.ite ?_ ?_)
  | (with_reducible refine LeO.bind ?_ (fun _ => ?_))
set_option maxHeartbeats 8000000 in
set_option maxRecDepth 100000 in
theorem peristylelaw2_awake.calls (k : Nat)  (r : Bool) (w : World) (h : peristylelaw2_awake.f k  = some r) :
 Calls Try.prog 13 #[] w fun e w' => e = .returned (.bool r) ∧ Below w.heap.size w w' := by
 have HB := Ak (Below.refl w.heap.size w)
 have H : ((e_Encode.f k 4 (([5, 5, 5, 7] : List Int))).bind fun bt224 => (if bt224.2 = 0 then ((s_Equalb.f k bt224.1 (([4, 4, 10, 2, 2] : List Int))).bind fun t231 => (some t231)) else (some false))) = some r := h
 clear h
 obtain ⟨y221, hy221⟩ : ∃ y_ : List Int, y_ = (([5, 5, 5, 7] : List Int)) := ⟨_, rfl⟩
 replace H : ((e_Encode.f k 4 y221).bind fun bt224 => (if bt224.2 = 0 then ((s_Equalb.f k bt224.1 (([4, 4, 10, 2, 2] : List Int))).bind fun t231 => (some t231)) else (some false))) = some r := by (rw [hy221]; with_reducible exact H)
 have Ny221 := Ak hy221
 clear hy221
 replace H := Option.bind_eq_some_iff.mp H
 obtain ⟨⟨t224, t225⟩, A10, H⟩ := H
 replace H : (if t225 = 0 then ((s_Equalb.f k t224 (([4, 4, 10, 2, 2] : List Int))).bind fun t231 => (some t231)) else (some false)) = some r := H
 have A1 := Ak A10
 clear A10
 by_cases c2 : t225 = 0
 ·rw [if_pos c2] at H
  have c2b0 : (t225 == 0) = true := beq_iff_eq.mpr c2
  have c2b1 : (t225 != 0) = false := bne_eq_false_iff_eq.mpr c2
  clear c2
  obtain ⟨y228, hy228⟩ : ∃ y_ : List Int, y_ = (([4, 4, 10, 2, 2] : List Int)) := ⟨_, rfl⟩
  replace H : ((s_Equalb.f k t224 y228).bind fun t231 => (some t231)) = some r := by (rw [hy228]; with_reducible exact H)
  have Ny228 := Ak hy228
  clear hy228
  replace H := Option.bind_eq_some_iff.mp H
  obtain ⟨t231, A30, H⟩ := H
  replace H : (some t231) = some r := H
  have A3 := Ak A30
  clear A30
  obtain rfl := Option.some.inj H
  go_enter Try.func13, Try.ntmps13
  go_wp2_with (first | ((with_reducible refine gate_dst (N := 4) rfl ?_); (try (refine gate_guard (by rfl) ?_; dsimp only)); refine Kd.R_lit (Kd.int .i64) _ 3 ?hg (N := 4) ?hd (xs := ([5, 5, 5, 7] : List Int)) (inner := [.int .i64 5, .int .i64 5, .int .i64 5, .int .i64 7]) (ok := fun _ => True) (okp := fun _ => True) ?hr ?hp (fun _ hk => hk) trivial (Below.refl _ _) (Nat.le_refl _) (by simp) ?_; (case hd => rfl); (case hg => rfl); (case hr => (go_simp; done)); (case hp => exact (Reps.one (show Kd.M (Kd.int .i64) _ _ _ 5 [.int .i64 5] from rfl) (Reps.one (show Kd.M (Kd.int .i64) _ _ _ 5 [.int .i64 5] from rfl) (Reps.one (show Kd.M (Kd.int .i64) _ _ _ 5 [.int .i64 5] from rfl) (Reps.one (show Kd.M (Kd.int .i64) _ _ _ 7 [.int .i64 7] from rfl) (Reps.none _ _)))))); intro v222 w4 ho5 hb hg_ hnew_; clear hg_ hnew_; (rw [← Ny221.out] at ho5); have n0_ := Ak (Kd.R_lower ho5 (below_size (by exact HB.out))); have n1_ := Ak (below_step (by exact HB.out) hb); clear HB; have HO223 := n0_; have HB := n1_; clear n0_ n1_ hb ho5; obtain ⟨Ao6, co6, eo6⟩ := Kd.R_slice HO223.out; subst eo6) | ((with_reducible refine gate_callee (f := 14) rfl ?_); refine goesL_ (some 5) rfl rfl Try.func14 (by kernel_rfl) rfl #[.int .i64 4, .slice Ao6 y221.length co6] rfl (by (try simp only [lm]); rfl) ?_; (with_reducible refine (e_Encode.calls k 4 _ _ y221 t224 t225 _ ?side1 ?side2 A1.out).mono ?_); (case side1 => repeat (exact (Kd.R_reads' HO223.out).2.2)); (case side2 => exact (Kd.R_reads' HO223.out).2.1); rintro e w7 ⟨v226, rfl, ho0, hb⟩; refine ⟨_, rfl, ?_⟩; have n0_ := Ak (Kd.R_below (by exact HO223.out) hb); have n1_ := Ak (Kd.R_lower ho0 (below_size (by exact HB.out))); have n2_ := Ak (below_step (by exact HB.out) hb); clear HO223 HB; have HO223 := n0_; have HO227 := n1_; have HB := n2_; clear n0_ n1_ n2_; (try clear hb); (try clear ho0)) | ((with_reducible refine gate_dst (N := 12) rfl ?_); (try (refine gate_guard (by rfl) ?_; dsimp only)); refine Kd.R_lit (Kd.int .u8) _ 5 ?hg (N := 12) ?hd (xs := ([4, 4, 10, 2, 2] : List Int)) (inner := [.int .u8 4, .int .u8 4, .int .u8 10, .int .u8 2, .int .u8 2]) (ok := fun _ => True) (okp := fun _ => True) ?hr ?hp (fun _ hk => hk) trivial (Below.refl _ _) (Nat.le_refl _) (by simp) ?_; (case hd => rfl); (case hg => rfl); (case hr => (go_simp; done)); (case hp => exact (Reps.one (show Kd.M (Kd.int .u8) _ _ _ 4 [.int .u8 4] from rfl) (Reps.one (show Kd.M (Kd.int .u8) _ _ _ 4 [.int .u8 4] from rfl) (Reps.one (show Kd.M (Kd.int .u8) _ _ _ 10 [.int .u8 10] from rfl) (Reps.one (show Kd.M (Kd.int .u8) _ _ _ 2 [.int .u8 2] from rfl) (Reps.one (show Kd.M (Kd.int .u8) _ _ _ 2 [.int .u8 2] from rfl) (Reps.none _ _))))))); intro v229 w8 ho9 hb hg_ hnew_; clear hg_ hnew_; (rw [← Ny228.out] at ho9); have n0_ := Ak (Kd.R_below (by exact HO223.out) hb); have n1_ := Ak (Kd.R_elder' (by exact HO227.out) (Kd.R_base ho9) hb); have n2_ := Ak (Kd.R_lower (Kd.R_new' ho9 (Kd.R_lt (by exact HO227.out))) (below_size (by exact HB.out))); have n3_ := Ak (below_step (by exact HB.out) hb); clear HO223 HO227 HB; have HO223 := n0_; have HO227 := n1_; have HO230 := n2_; have HB := n3_; clear n0_ n1_ n2_ n3_ hb ho9; obtain ⟨Ao10, co10, eo10⟩ := Kd.R_slice HO227.out; subst eo10; obtain ⟨Ao11, co11, eo11⟩ := Kd.R_slice HO230.out; subst eo11) | (go_at_call 17; (with_reducible refine (s_Equalb.calls k _ _ t224 _ _ y228 t231 _ ?side1 ?side2 ?side3 ?side4 A3.out).mono ?_); (case side1 => repeat (exact (Kd.R_reads' HO227.out).2.2)); (case side2 => exact (Kd.R_reads' HO227.out).2.1); (case side3 => repeat (exact (Kd.R_reads' HO230.out).2.2)); (case side4 => exact (Kd.R_reads' HO230.out).2.1); rintro e w' ⟨rfl, ⟨nd, rfl⟩⟩))
  go_ret
  exact ⟨by rfl, by repeat ((with_reducible first | exact HB.out | apply pw_below_drewN))⟩
 ·rw [if_neg c2] at H
  have c2b0 : (t225 == 0) = false := beq_eq_false_iff_ne.mpr c2
  have c2b1 : (t225 != 0) = true := bne_iff_ne.mpr c2
  obtain rfl := Option.some.inj H
  go_enter Try.func13, Try.ntmps13
  go_wp2_with (first | ((with_reducible refine gate_dst (N := 4) rfl ?_); (try (refine gate_guard (by rfl) ?_; dsimp only)); refine Kd.R_lit (Kd.int .i64) _ 3 ?hg (N := 4) ?hd (xs := ([5, 5, 5, 7] : List Int)) (inner := [.int .i64 5, .int .i64 5, .int .i64 5, .int .i64 7]) (ok := fun _ => True) (okp := fun _ => True) ?hr ?hp (fun _ hk => hk) trivial (Below.refl _ _) (Nat.le_refl _) (by simp) ?_; (case hd => rfl); (case hg => rfl); (case hr => (go_simp; done)); (case hp => exact (Reps.one (show Kd.M (Kd.int .i64) _ _ _ 5 [.int .i64 5] from rfl) (Reps.one (show Kd.M (Kd.int .i64) _ _ _ 5 [.int .i64 5] from rfl) (Reps.one (show Kd.M (Kd.int .i64) _ _ _ 5 [.int .i64 5] from rfl) (Reps.one (show Kd.M (Kd.int .i64) _ _ _ 7 [.int .i64 7] from rfl) (Reps.none _ _)))))); intro v222 w12 ho13 hb hg_ hnew_; clear hg_ hnew_; (rw [← Ny221.out] at ho13); have n0_ := Ak (Kd.R_lower ho13 (below_size (by exact HB.out))); have n1_ := Ak (below_step (by exact HB.out) hb); clear HB; have HO223 := n0_; have HB := n1_; clear n0_ n1_ hb ho13; obtain ⟨Ao14, co14, eo14⟩ := Kd.R_slice HO223.out; subst eo14) | ((with_reducible refine gate_callee (f := 14) rfl ?_); refine goesL_ (some 5) rfl rfl Try.func14 (by kernel_rfl) rfl #[.int .i64 4, .slice Ao14 y221.length co14] rfl (by (try simp only [lm]); rfl) ?_; (with_reducible refine (e_Encode.calls k 4 _ _ y221 t224 t225 _ ?side1 ?side2 A1.out).mono ?_); (case side1 => repeat (exact (Kd.R_reads' HO223.out).2.2)); (case side2 => exact (Kd.R_reads' HO223.out).2.1); rintro e w15 ⟨v226, rfl, ho0, hb⟩; refine ⟨_, rfl, ?_⟩; have n0_ := Ak (Kd.R_below (by exact HO223.out) hb); have n1_ := Ak (Kd.R_lower ho0 (below_size (by exact HB.out))); have n2_ := Ak (below_step (by exact HB.out) hb); clear HO223 HB; have HO223 := n0_; have HO227 := n1_; have HB := n2_; clear n0_ n1_ n2_; (try clear hb); (try clear ho0)))
  go_ret
  exact ⟨by rfl, by exact HB.out⟩
def s_Equal.l0 : Nat → List Int → List Int → Int → Int → Option (Bool)
 | 0, _, _, _, _ => none
 | k + 1, x0, x1, x12, x13 => if x13 < x12 then (if 0 ≤ x13 then (if x13 < (x0.length : Int) then (if x13 < (x1.length : Int) then (if (rd x0 x13) = (rd x1 x13) then (s_Equal.l0 k x0 x1 x12 (wrap64 (x13 + 1))) else (some false)) else (none)) else (none)) else (none)) else (some true)
def s_Equal.f (k : Nat) (l0 : List Int) (l1 : List Int) : Option (Bool) := if (l0.length : Int) = (l1.length : Int) then (s_Equal.l0 k l0 l1 (l0.length : Int) 0) else (some false)
theorem s_Equal.mono_l : ∀ k, (∀ y0 y1 y2 y3, LeO (s_Equal.l0 k y0 y1 y2 y3) (s_Equal.l0 (k + 1) y0 y1 y2 y3))
 | 0 => fun _ _ _ _ r h => by simp [s_Equal.l0] at h
 | k + 1 => by
  have ih0 := s_Equal.mono_l k
  ·intro y0 y1 y2 y3
   unfold s_Equal.l0
   repeat' first
   | (with_reducible exact ih0 _ _ _ _)
   | (with_reducible exact LeO.refl _)
   | (with_reducible refine LeO.ite ?_ ?_)
theorem s_Equal.mono : ∀ a0 a1 k, LeO (s_Equal.f k a0 a1) (s_Equal.f (k + 1) a0 a1) := by
 intro a0 a1 k
 have ih0 := s_Equal.mono_l k
 unfold s_Equal.f
 repeat' first
  | (with_reducible exact ih0 _ _ _ _)
  | (with_reducible exact LeO.refl _)
  | (with_reducible refine LeO.ite ?_ ?_)
set_option maxHeartbeats 8000000 in
set_option maxRecDepth 100000 in
theorem s_Equal.calls (k : Nat) (A0 : Option Addr) (c0 : Nat) (l0 : List Int) (A1 : Option Addr) (c1 : Nat) (l1 : List Int) (r : Bool) (w : World) (hr0 : Kd.C (Kd.int .i64) w A0 l0.length l0) (hc0 : l0.length ≤ c0) (hr1 : Kd.C (Kd.int .i64) w A1 l1.length l1) (hc1 : l1.length ≤ c1) (h : s_Equal.f k l0 l1 = some r) :
 Calls Try.prog 22 #[.slice A0 l0.length c0, .slice A1 l1.length c1] w fun e w' => e = .returned (.bool r) ∧ Drawn0 w w' := by
 have HR0 := Ak hr0
 have HC0 := Ak hc0
 clear hr0 hc0
 have HR1 := Ak hr1
 have HC1 := Ak hc1
 clear hr1 hc1
 have H : (if (l0.length : Int) = (l1.length : Int) then (s_Equal.l0 k l0 l1 (l0.length : Int) 0) else (some false)) = some r := h
 clear h
 by_cases c3 : (l0.length : Int) = (l1.length : Int)
 ·rw [if_pos c3] at H
  have c3b0 : ((l0.length : Int) == (l1.length : Int)) = true := beq_iff_eq.mpr c3
  have c3b1 : ((l0.length : Int) != (l1.length : Int)) = false := bne_eq_false_iff_eq.mpr c3
  have c3b2 : (l0.length == l1.length) = true := by (simp at c3 ⊢; omega)
  clear c3
  have H' := Ak H
  clear H
  go_enter Try.func22, Try.ntmps22
  go_wp2
  repeat (go_quiet (fail); try go_wp2)
  go_loopg [13] k (fun kq v13 w' => ∃ (x13_1 : Int), v13 = .int .i64 x13_1 ∧ Aside0 (s_Equal.l0 kq l0 l1 (l0.length : Int) x13_1 = some r) ∧ Aside0 (kq ≤ k) ∧ Drawn0 w w')
  case atStart => exact ⟨(0), (by rfl), H', ⟨Nat.le_refl _⟩, by repeat (exact Drawn0.refl _)⟩
  case round =>
   clear H'
   try clear c3b0
   try clear c3b1
   try clear c3b2
   obtain ⟨x13_1, rfl, HA, HK1, ⟨m1, rfl⟩⟩ := hrel
   cases gk with
   | zero => exact absurd HA.out (by simp [s_Equal.l0])
   | succ k1 =>
    have H := HA.out
    clear HA
    simp only [s_Equal.l0] at H
    by_cases c4 : x13_1 < (l0.length : Int)
    ·rw [if_pos c4] at H
     have c4b0 : decide (x13_1 < (l0.length : Int)) = true := decide_eq_true c4
     clear c4
     by_cases c5 : 0 ≤ x13_1
     ·rw [if_pos c5] at H
      have c5b0 : decide (0 ≤ x13_1) = true := decide_eq_true c5
      clear c5
      by_cases c6 : x13_1 < (l0.length : Int)
      ·rw [if_pos c6] at H
       have c6b0 : decide (x13_1 < (l0.length : Int)) = true := decide_eq_true c6
       clear c6
       by_cases c7 : x13_1 < (l1.length : Int)
       ·rw [if_pos c7] at H
        have c7b0 : decide (x13_1 < (l1.length : Int)) = true := decide_eq_true c7
        clear c7
        by_cases c8 : (rd l0 x13_1) = (rd l1 x13_1)
        ·rw [if_pos c8] at H
         have c8b0 : ((rd l0 x13_1) == (rd l1 x13_1)) = true := beq_iff_eq.mpr c8
         have c8b1 : ((rd l0 x13_1) != (rd l1 x13_1)) = false := bne_eq_false_iff_eq.mpr c8
         clear c8
         have H' := Ak H
         clear H
         have p232 : 0 ≤ (x13_1 : Int) := of_decide_eq_true (by (with_reducible assumption))
         have q232 : x13_1 < (l0.length : Int) := of_decide_eq_true (by (with_reducible assumption))
         obtain ⟨ad232, e232, hx232_0⟩ := Kd.at_int HR0.out x13_1 p232 q232
         cases e232
         replace p232 := eq_true p232
         replace q232 := eq_true q232
         have p233 : 0 ≤ (x13_1 : Int) := of_decide_eq_true (by (with_reducible assumption))
         have q233 : x13_1 < (l1.length : Int) := of_decide_eq_true (by (with_reducible assumption))
         obtain ⟨ad233, e233, hx233_0⟩ := Kd.at_int HR1.out x13_1 p233 q233
         cases e233
         replace p233 := eq_true p233
         replace q233 := eq_true q233
         go_wp2
         repeat (go_quiet (fail); try go_wp2)
         go_roundg k1
         case measure => have := HK1.out; omega
         case rel => exact ⟨(wrap64 (x13_1 + 1)), (by rfl), H', ⟨by have := HK1.out; omega⟩, by repeat (first | exact Drawn0.refl _ | apply Drawn0.step)⟩
        ·rw [if_neg c8] at H
         have c8b0 : ((rd l0 x13_1) == (rd l1 x13_1)) = false := beq_eq_false_iff_ne.mpr c8
         have c8b1 : ((rd l0 x13_1) != (rd l1 x13_1)) = true := bne_iff_ne.mpr c8
         obtain rfl := Option.some.inj H
         have p232 : 0 ≤ (x13_1 : Int) := of_decide_eq_true (by (with_reducible assumption))
         have q232 : x13_1 < (l0.length : Int) := of_decide_eq_true (by (with_reducible assumption))
         obtain ⟨ad232, e232, hx232_0⟩ := Kd.at_int HR0.out x13_1 p232 q232
         cases e232
         replace p232 := eq_true p232
         replace q232 := eq_true q232
         have p233 : 0 ≤ (x13_1 : Int) := of_decide_eq_true (by (with_reducible assumption))
         have q233 : x13_1 < (l1.length : Int) := of_decide_eq_true (by (with_reducible assumption))
         obtain ⟨ad233, e233, hx233_0⟩ := Kd.at_int HR1.out x13_1 p233 q233
         cases e233
         replace p233 := eq_true p233
         replace q233 := eq_true q233
         go_wp2
         repeat (go_quiet (fail); try go_wp2)
         go_ret
         exact ⟨by rfl, by repeat (first | exact Drawn0.refl _ | apply Drawn0.step)⟩
       ·rw [if_neg c7] at H
        exact absurd H (by simp)
      ·rw [if_neg c6] at H
       exact absurd H (by simp)
     ·rw [if_neg c5] at H
      exact absurd H (by simp)
    ·rw [if_neg c4] at H
     have c4b0 : decide (x13_1 < (l0.length : Int)) = false := decide_eq_false c4
     clear c4
     obtain rfl := Option.some.inj H
     go_wp2
     repeat (go_quiet (fail); try go_wp2)
     go_ret
     exact ⟨by rfl, by repeat (first | exact Drawn0.refl _ | apply Drawn0.step)⟩
 ·rw [if_neg c3] at H
  have c3b0 : ((l0.length : Int) == (l1.length : Int)) = false := beq_eq_false_iff_ne.mpr c3
  have c3b1 : ((l0.length : Int) != (l1.length : Int)) = true := bne_iff_ne.mpr c3
  have c3b2 : (l0.length == l1.length) = false := by (simp at c3 ⊢; omega)
  obtain rfl := Option.some.inj H
  go_enter Try.func22, Try.ntmps22
  go_wp2
  repeat (go_quiet (fail); try go_wp2)
  go_ret
  exact ⟨by rfl, by repeat (exact Drawn0.refl _)⟩
def kit_Range.f (a0 : Int) (a1 : Int) (a2 : Int) : Option (Int) := (kit_In.f a0 a1 a2).bind fun t234 => (if t234 = true then (some 0) else (some 1))
set_option maxHeartbeats 8000000 in
set_option maxRecDepth 100000 in
theorem kit_Range.calls (a0 : Int) (a1 : Int) (a2 : Int) (r : Int) (w : World) (h : kit_Range.f a0 a1 a2 = some r) :
 Calls Try.prog 118 #[.int .i64 a0, .int .i64 a1, .int .i64 a2] w fun e w' => e = .returned (.int .i64 r) ∧ Drawn0 w w' := by
 have H : ((kit_In.f a0 a1 a2).bind fun t234 => (if t234 = true then (some 0) else (some 1))) = some r := h
 clear h
 replace H := Option.bind_eq_some_iff.mp H
 obtain ⟨t234, A40, H⟩ := H
 replace H : (if t234 = true then (some 0) else (some 1)) = some r := H
 have A4 := Ak A40
 clear A40
 by_cases c5 : t234 = true
 ·subst c5
  replace H : (some 0) = some r := by rw [if_pos rfl] at H; exact H
  obtain rfl := Option.some.inj H
  go_enter Try.func118, Try.ntmps118
  go_wp2_with (first | ((with_reducible refine gate_callee (f := 52) rfl ?_); refine goesL_ (some 10) rfl rfl Try.func52 (by kernel_rfl) rfl #[.int .i64 a0, .int .i64 a1, .int .i64 a2] rfl (by (try simp only [lm]); rfl) ?_; (with_reducible refine (kit_In.calls a0 a1 a2 true _ A4.out).mono ?_); rintro e w' ⟨rfl, ⟨nd, rfl⟩⟩; refine ⟨_, rfl, ?_⟩))
  go_ret
  exact ⟨by rfl, by repeat (first | exact Drawn0.refl _ | apply Drawn0.step)⟩
 ·replace c5 := Bool.eq_false_iff.mpr c5
  subst c5
  replace H : (some 1) = some r := by rw [if_neg (show ¬ (false = true) by decide)] at H; exact H
  obtain rfl := Option.some.inj H
  go_enter Try.func118, Try.ntmps118
  go_wp2_with (first | ((with_reducible refine gate_callee (f := 52) rfl ?_); refine goesL_ (some 10) rfl rfl Try.func52 (by kernel_rfl) rfl #[.int .i64 a0, .int .i64 a1, .int .i64 a2] rfl (by (try simp only [lm]); rfl) ?_; (with_reducible refine (kit_In.calls a0 a1 a2 false _ A4.out).mono ?_); rintro e w' ⟨rfl, ⟨nd, rfl⟩⟩; refine ⟨_, rfl, ?_⟩))
  go_ret
  exact ⟨by rfl, by repeat (first | exact Drawn0.refl _ | apply Drawn0.step)⟩
end Go.Proofs.Ythhdihnaicggiaa.D
