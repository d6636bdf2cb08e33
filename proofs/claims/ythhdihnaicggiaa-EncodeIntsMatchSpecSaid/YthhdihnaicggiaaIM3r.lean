/- Reading counts and runs of bools, in plain Lean. No conditions beyond those in each theorem. -/
import Derived.Test.YthhdihnaicggiaaIM3
namespace Go.Proofs.Ythhdihnaicggiaa.I
open Go.RowKit Go.Proofs.YthhdihnaicggiaaW.PrintWords Go.Proofs.YthhdihnaicggiaaW.PrintLast Go.Proofs.YthhdihnaicggiaaW.PrintMore
set_option linter.unusedVariables false
set_option linter.unusedSimpArgs false

theorem rbyte_nil : peristyleref2_reader_byte.f [] false = some (0, [], true) := by simp [peristyleref2_reader_byte.f, wrap64]
theorem rbyte_cons {b : Int} {t : List Int} (h0 : 0 ≤ b) (h1 : b ≤ 255) : peristyleref2_reader_byte.f (b :: t) false = some (b, t, false) := by
 simp [peristyleref2_reader_byte.f, w64 (show -9223372036854775808 ≤ b by omega) (show b ≤ 9223372036854775807 by omega)]
theorem rrc_ev (m : Nat) : ∀ (i : Nat) (v : Int) (s : List Int), i + m = 8 → 0 ≤ v → v < 128 ^ i → (∀ x ∈ s, 0 ≤ x ∧ x ≤ 255) → Ev (fun k => peristyleref2_reader_count.l0 k v ((7 * i : Nat) : Int) s false) (rc m i v s) := by
 induction m with
 | zero =>
  intro i v s hi h0 hv hs
  refine Ev.step (fun k => by rw [peristyleref2_reader_count.l0]) (ev_neg (by omega) ?_)
  exact ev_some _
 | succ m ih =>
  intro i v s hi h0 hv hs
  refine Ev.step (fun k => by rw [peristyleref2_reader_count.l0]) (ev_pos (by omega) ?_)
  cases s with
  | nil =>
   rw [rbyte_nil]
   refine Ev.bind (ev_some _) (ev_pos (by omega) (ev_pos (show (0 : Int) < 128 by omega) ?_))
   show Ev (fun k => some (Go.bits .or .i64 v (shl .i64 (Go.bits .and .i64 0 127) ((7 * i : Nat) : Int)), ([] : List Int), true)) (rc (m + 1) i v [])
   rw [orshl0 h0 hv (by omega)]
   exact ev_some _
  | cons b t =>
   have hb := hs b (List.mem_cons_self ..)
   rw [rbyte_cons hb.1 hb.2]
   refine Ev.bind (ev_some _) (ev_pos (by omega) ?_)
   show Ev (fun k => if b < 128 then some (Go.bits .or .i64 v (shl .i64 (Go.bits .and .i64 b 127) ((7 * i : Nat) : Int)), t, false) else if false = true then some (Go.bits .or .i64 v (shl .i64 (Go.bits .and .i64 b 127) ((7 * i : Nat) : Int)), t, false) else peristyleref2_reader_count.l0 k (Go.bits .or .i64 v (shl .i64 (Go.bits .and .i64 b 127) ((7 * i : Nat) : Int))) (wrap64 (((7 * i : Nat) : Int) + 7)) t false) (rc (m + 1) i v (b :: t))
   rw [orshl h0 hv hb.1 hb.2 (by omega)]
   by_cases hlt : b < 128
   ·exact ev_pos hlt (ev_eq (ev_some _) (by rw [rc, if_pos hlt]))
   ·refine ev_neg hlt (ev_neg (by simp) ?_)
    rw [rc, if_neg hlt, w64 (by omega) (by omega), show ((7 * i : Nat) : Int) + 7 = ((7 * (i + 1) : Nat) : Int) by omega]
    have hst := v_step (b := b) h0 hv
    exact ih (i + 1) _ t (by omega) hst.1 hst.2 (fun x hx => hs x (List.mem_cons_of_mem _ hx))
theorem rcount2_ev {s : List Int} (hs : ∀ x ∈ s, 0 ≤ x ∧ x ≤ 255) : Ev (fun k => peristyleref2_reader_count.f k s false) (rc 8 0 0 s) :=
 rrc_ev 8 0 0 s rfl (by omega) (by simp) hs

end Go.Proofs.Ythhdihnaicggiaa.I
