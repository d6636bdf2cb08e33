/- At, Where and Least, in plain Lean, and the law that what is asked of bytes is what is asked of the values. No conditions beyond those in each theorem. -/
import Derived.Test.YthhdihnaicggiaaCM8
namespace Go.Proofs.Ythhdihnaicggiaa.C
open Go.RowKit Go.Proofs.YthhdihnaicggiaaW.PrintWords Go.Proofs.YthhdihnaicggiaaW.PrintLast Go.Proofs.YthhdihnaicggiaaW.PrintMore
set_option linter.unusedVariables false
set_option linter.unusedSimpArgs false

theorem indexNo_ev {d : List Int} (hd : d.length ≤ 100000) {v : Int} (h : v ∉ d) : Ev (fun k => slices_Index_int_int.f k d v) (-1) := by
  have key : ∀ n (i : Nat), i ≤ d.length → d.length - i ≤ n → Ev (fun k => slices_Index_int_int.l0 k d v (d.length : Int) (i : Int)) (-1) := by
    intro n
    induction n with
    | zero => intro i hi hn; exact Ev.step (fun k => by rw [slices_Index_int_int.l0]) (ev_neg (by omega) (ev_some _))
    | succ n ih =>
      intro i hi hn
      refine Ev.step (fun k => by rw [slices_Index_int_int.l0]) ?_
      by_cases hlt : i < d.length
      · refine ev_pos (by omega) (ev_pos (by omega) (ev_pos (by omega) (ev_neg ?_ ?_)))
        · rw [rdD]; exact fun e => h (e ▸ mem_getD hlt)
        · rw [w64 (by omega) (by omega)]
          exact ih (i + 1) (by omega) (by omega)
      · exact ev_neg (by omega) (ev_some _)
  exact key _ 0 (by omega) (Nat.le_refl _)
theorem indexYes_ev {d : List Int} (hs : d.Pairwise (· < ·)) (hd : d.length ≤ 100000) {v : Int} (h : v ∈ d) : Ev (fun k => slices_Index_int_int.f k d v) (pl d v : Int) := by
  have hl := pl_lt h
  have key : ∀ n (i : Nat), i ≤ pl d v → pl d v - i ≤ n → Ev (fun k => slices_Index_int_int.l0 k d v (d.length : Int) (i : Int)) (pl d v : Int) := by
    intro n
    induction n with
    | zero =>
      intro i hi hn
      rw [show i = pl d v by omega]
      refine Ev.step (fun k => by rw [slices_Index_int_int.l0]) (ev_pos (by omega) (ev_pos (by omega) (ev_pos (by omega) (ev_pos ?_ (ev_some _)))))
      rw [rdD, pl_get h]
    | succ n ih =>
      intro i hi hn
      by_cases he : i = pl d v
      · rw [he]
        refine Ev.step (fun k => by rw [slices_Index_int_int.l0]) (ev_pos (by omega) (ev_pos (by omega) (ev_pos (by omega) (ev_pos ?_ (ev_some _)))))
        rw [rdD, pl_get h]
      · have := (pl_iff hs h (show i < d.length by omega)).2 (by omega)
        refine Ev.step (fun k => by rw [slices_Index_int_int.l0]) (ev_pos (by omega) (ev_pos (by omega) (ev_pos (by omega) (ev_neg ?_ ?_))))
        · rw [rdD]; omega
        · rw [w64 (by omega) (by omega)]
          exact ih (i + 1) (by omega) (by omega)
  exact key _ 0 (by omega) (Nat.le_refl _)
theorem contains_ev {d : List Int} (hs : d.Pairwise (· < ·)) (hd : d.length ≤ 100000) (v : Int) : Ev (fun k => slices_Contains_int_int.f k d v) (decide (v ∈ d)) := by
  unfold slices_Contains_int_int.f
  by_cases h : v ∈ d
  · exact Ev.bind (indexYes_ev hs hd h) (ev_eq (ev_some _) (by simp [h]))
  · exact Ev.bind (indexNo_ev hd h) (ev_eq (ev_some _) (by simp [h]))
end Go.Proofs.Ythhdihnaicggiaa.C
