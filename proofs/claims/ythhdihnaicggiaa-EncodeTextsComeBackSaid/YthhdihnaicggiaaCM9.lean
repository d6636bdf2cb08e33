/- Check, Encode and Best, in plain Lean, and the law that no code has fewer bytes than the best one. No conditions beyond those in each theorem. -/
import Derived.Test.YthhdihnaicggiaaCM8
namespace Go.Proofs.Ythhdihnaicggiaa.C
open Go.RowKit Go.Proofs.YthhdihnaicggiaaW.PrintWords Go.Proofs.YthhdihnaicggiaaW.PrintLast Go.Proofs.YthhdihnaicggiaaW.PrintMore
set_option linter.unusedVariables false
set_option linter.unusedSimpArgs false

/-! ### check -/
def inR (v : Int) : Bool := decide (-1000000000000000 ≤ v) && decide (v ≤ 1000000000000000)
/-- What check answers. -/
def chk (l : List Int) : Int := if l.length > 2000 then 2 else if l.all inR then 0 else 1
theorem chk_ok {l : List Int} : chk l = 0 ↔ Okv l := by
  unfold chk Okv
  by_cases h : l.length > 2000
  · rw [if_pos h]
    exact ⟨fun h => by omega, fun h' => by omega⟩
  · rw [if_neg h]
    by_cases ha : l.all inR = true
    · rw [if_pos ha]
      rw [List.all_eq_true] at ha
      exact ⟨fun _ => ⟨by omega, fun v hv => by have := ha v hv; simp [inR] at this; exact this⟩, fun _ => rfl⟩
    · rw [if_neg ha]
      exact ⟨fun h => by omega, fun h' => absurd (List.all_eq_true.2 fun v hv => by have := h'.2 v hv; simp [inR]; exact this) ha⟩
theorem in_eq (lo hi v : Int) : kit_In.f v lo hi = some (decide (lo ≤ v) && decide (v ≤ hi)) := by
  unfold kit_In.f
  by_cases h : lo ≤ v
  · rw [if_pos h]; simp [h]
  · rw [if_neg h]; simp [h]
theorem check_ev (l : List Int) : Ev (fun k => encode_check.f k l) (chk l) := by
  unfold encode_check.f chk
  by_cases h : l.length > 2000
  · rw [if_pos h]
    exact ev_pos (by omega) (ev_some _)
  · rw [if_neg h]
    refine ev_neg (by omega) ?_
    have key : ∀ n (i : Nat), i ≤ l.length → l.length - i ≤ n → Ev (fun k => encode_check.l0 k l (l.length : Int) (i : Int)) (if (l.drop i).all inR then 0 else 1) := by
      intro n
      induction n with
      | zero =>
        intro i hi hn
        refine Ev.step (fun k => by rw [encode_check.l0]) (ev_neg (by omega) ?_)
        rw [List.drop_eq_nil_of_le (by omega)]
        exact ev_some _
      | succ n ih =>
        intro i hi hn
        refine Ev.step (fun k => by rw [encode_check.l0]) ?_
        by_cases hlt : i < l.length
        · refine ev_pos (by omega) (ev_pos (by omega) (ev_pos (by omega) ?_))
          rw [rdD, in_eq, getD_drop_head (d := 0) hlt, List.all_cons]
          refine Ev.bind (ev_some _) ?_
          by_cases hin : inR (l.getD i 0) = true
          · refine ev_pos hin ?_
            rw [hin, Bool.true_and, w64 (by omega) (by omega)]
            exact ih (i + 1) (by omega) (by omega)
          · refine ev_neg hin ?_
            rw [eq_false_of_ne_true hin]
            exact ev_some _
        · refine ev_neg (by omega) ?_
          rw [List.drop_eq_nil_of_le (by omega)]
          exact ev_some _
    exact key _ 0 (by omega) (Nat.le_refl _)
/-- What Encode answers. -/
def encAns (c : Int) (l : List Int) : List Int × Int := if 1 ≤ c ∧ c ≤ 5 then (if chk l = 0 then (enc c.toNat l, 0) else ([], chk l)) else ([], 4)
theorem Encode_ev (c : Int) (l : List Int) : Ev (fun k => encode_Encode.f k c l) (encAns c l) := by
  unfold encode_Encode.f encAns
  rw [in_eq]
  refine Ev.bind (ev_some _) ?_
  by_cases hc : 1 ≤ c ∧ c ≤ 5
  · rw [if_pos hc]
    refine ev_pos (by simpa using hc) (Ev.bind (check_ev l) ?_)
    by_cases h0 : chk l = 0
    · rw [if_pos h0]
      have := encode_ev (c := c.toNat) (by omega) (by omega) (chk_ok.1 h0)
      rw [Int.toNat_of_nonneg (by omega)] at this
      exact ev_pos h0 (Ev.bind this (ev_some _))
    · rw [if_neg h0]
      exact ev_neg h0 (ev_some _)
  · rw [if_neg hc]
    exact ev_neg (by simpa using hc) (ev_some _)

/-! ### the law -/
theorem awake_e : Ev (fun k => peristylelaw2_awake.f k) true := by
  have key : ∀ d, peristylelaw2_awake.f (30 + d) = some true := by
    intro d
    induction d with
    | zero => decide +kernel
    | succ d ih => exact peristylelaw2_awake.mono _ _ ih
  exact ⟨30, fun k hk => by
    have := key (k - 30)
    rwa [show 30 + (k - 30) = k by omega] at this⟩
end Go.Proofs.Ythhdihnaicggiaa.C
