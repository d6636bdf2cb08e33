/- Check, Encode and Best, in plain Lean, and the law that no code has fewer bytes than the best one. No conditions beyond those in each theorem. -/
import Derived.Test.YthhdihnaicggiaaJM8
namespace Go.Proofs.Ythhdihnaicggiaa.J
open Go.RowKit Go.Proofs.YthhdihnaicggiaaW.PrintWords Go.Proofs.YthhdihnaicggiaaW.PrintLast Go.Proofs.YthhdihnaicggiaaW.PrintMore
set_option linter.unusedVariables false
set_option linter.unusedSimpArgs false

/-! ### check -/
def inR (v : Int) : Bool := decide (-1000000000000000 ≤ v) && decide (v ≤ 1000000000000000)
/-- What check answers. -/
def chk (l : List Int) : Int := if l.length > 2000 then 2 else if l.all inR then 0 else 1
theorem chk_ok {l : List Int} : chk l = 0 ↔ Okv l := by
  unfold chk Okv
  by_cases h : l.length > 2000
  · rw [if_pos h]
    exact ⟨fun h => by omega, fun h' => by omega⟩
  · rw [if_neg h]
    by_cases ha : l.all inR = true
    · rw [if_pos ha]
      rw [List.all_eq_true] at ha
      exact ⟨fun _ => ⟨by omega, fun v hv => by have := ha v hv; simp [inR] at this; exact this⟩, fun _ => rfl⟩
    · rw [if_neg ha]
      exact ⟨fun h => by omega, fun h' => absurd (List.all_eq_true.2 fun v hv => by have := h'.2 v hv; simp [inR]; exact this) ha⟩
theorem in_eq (lo hi v : Int) : kit_In.f v lo hi = some (decide (lo ≤ v) && decide (v ≤ hi)) := by
  unfold kit_In.f
  by_cases h : lo ≤ v
  · rw [if_pos h]; simp [h]
  · rw [if_neg h]; simp [h]
theorem check_ev (l : List Int) : Ev (fun k => encode_check.f k l) (chk l) := by
  unfold encode_check.f chk
  by_cases h : l.length > 2000
  · rw [if_pos h]
    exact ev_pos (by omega) (ev_some _)
  · rw [if_neg h]
    refine ev_neg (by omega) ?_
    have key : ∀ n (i : Nat), i ≤ l.length → l.length - i ≤ n → Ev (fun k => encode_check.l0 k l (l.length : Int) (i : Int)) (if (l.drop i).all inR then 0 else 1) := by
      intro n
      induction n with
      | zero =>
        intro i hi hn
        refine Ev.step (fun k => by rw [encode_check.l0]) (ev_neg (by omega) ?_)
        rw [List.drop_eq_nil_of_le (by omega)]
        exact ev_some _
      | succ n ih =>
        intro i hi hn
        refine Ev.step (fun k => by rw [encode_check.l0]) ?_
        by_cases hlt : i < l.length
        · refine ev_pos (by omega) (ev_pos (by omega) (ev_pos (by omega) ?_))
          rw [rdD, in_eq, getD_drop_head (d := 0) hlt, List.all_cons]
          refine Ev.bind (ev_some _) ?_
          by_cases hin : inR (l.getD i 0) = true
          · refine ev_pos hin ?_
            rw [hin, Bool.true_and, w64 (by omega) (by omega)]
            exact ih (i + 1) (by omega) (by omega)
          · refine ev_neg hin ?_
            rw [eq_false_of_ne_true hin]
            exact ev_some _
        · refine ev_neg (by omega) ?_
          rw [List.drop_eq_nil_of_le (by omega)]
          exact ev_some _
    exact key _ 0 (by omega) (Nat.le_refl _)
/-- What Encode answers. -/
def encAns (c : Int) (l : List Int) : List Int × Int := if 1 ≤ c ∧ c ≤ 5 then (if chk l = 0 then (enc c.toNat l, 0) else ([], chk l)) else ([], 4)
theorem Encode_ev (c : Int) (l : List Int) : Ev (fun k => encode_Encode.f k c l) (encAns c l) := by
  unfold encode_Encode.f encAns
  rw [in_eq]
  refine Ev.bind (ev_some _) ?_
  by_cases hc : 1 ≤ c ∧ c ≤ 5
  · rw [if_pos hc]
    refine ev_pos (by simpa using hc) (Ev.bind (check_ev l) ?_)
    by_cases h0 : chk l = 0
    · rw [if_pos h0]
      have := encode_ev (c := c.toNat) (by omega) (by omega) (chk_ok.1 h0)
      rw [Int.toNat_of_nonneg (by omega)] at this
      exact ev_pos h0 (Ev.bind this (ev_some _))
    · rw [if_neg h0]
      exact ev_neg h0 (ev_some _)
  · rw [if_neg hc]
    exact ev_neg (by simpa using hc) (ev_some _)

/-! ### best -/
def el (l : List Int) (c : Nat) : Nat := (enc c l).length
/-- The best of the codes from i on, if the best before them is b. -/
def bst (l : List Int) : Nat → Nat → Nat → Nat
  | 0, _, b => b
  | n + 1, i, b => bst l n (i + 1) (if b = 0 then i else if el l i < el l b then i else b)
theorem best_l0 {l : List Int} (h : Okv l) (n : Nat) : ∀ i b : Nat, i + n = 6 → 1 ≤ i → b < i → Ev (fun k => encode_best.l0 k l (b : Int) (if b = 0 then 0 else (el l b : Int)) (i : Int)) (bst l n i b : Int) := by
  induction n with
  | zero =>
    intro i b hi h1 hb
    refine Ev.step (fun k => by rw [encode_best.l0]) ?_
    exact ev_neg (show ¬ (i : Int) ≤ 5 by omega) (ev_some _)
  | succ n ih =>
    intro i b hi h1 hb
    refine Ev.step (fun k => by rw [encode_best.l0]) (ev_pos (by omega) (Ev.bind (encode_ev h1 (by omega) h) ?_))
    rw [w64 (by omega) (by omega), bst]
    by_cases h0 : b = 0
    · subst h0
      rw [if_pos rfl]
      have := ih (i + 1) i (by omega) (by omega) (by omega)
      rw [if_neg (by omega)] at this
      exact ev_pos rfl this
    · rw [if_neg h0, if_neg h0]
      refine ev_neg (by omega) ?_
      by_cases hlt : el l i < el l b
      · have := ih (i + 1) i (by omega) (by omega) (by omega)
        rw [if_neg (show ¬ i = 0 by omega)] at this
        rw [if_pos hlt]
        exact ev_pos (by exact_mod_cast hlt) this
      · have := ih (i + 1) b (by omega) (by omega) (by omega)
        rw [if_neg h0] at this
        rw [if_neg hlt]
        exact ev_neg (by exact_mod_cast hlt) this
/-- The best code. -/
def bestOf (l : List Int) : Nat := bst l 5 1 0
theorem best_ev {l : List Int} (h : Okv l) : Ev (fun k => encode_best.f k l) (bestOf l : Int) := best_l0 h 5 1 0 rfl (by omega) (by omega)
theorem bst_spec (l : List Int) (n : Nat) : ∀ i b : Nat, b < i → 1 ≤ b → (∀ c, 1 ≤ c → c < i → el l b ≤ el l c ∧ (el l c = el l b → b ≤ c)) →
    1 ≤ bst l n i b ∧ bst l n i b < i + n ∧ ∀ c, 1 ≤ c → c < i + n → el l (bst l n i b) ≤ el l c ∧ (el l c = el l (bst l n i b) → bst l n i b ≤ c) := by
  induction n with
  | zero => intro i b hb h1 h; exact ⟨h1, hb, h⟩
  | succ n ih =>
    intro i b hb h1 h
    rw [bst, if_neg (by omega), show i + (n + 1) = i + 1 + n by omega]
    by_cases hlt : el l i < el l b
    · rw [if_pos hlt]
      refine ih (i + 1) i (by omega) (by omega) (fun c c1 c2 => ?_)
      by_cases hc : c = i
      · subst hc; exact ⟨Nat.le_refl _, fun _ => Nat.le_refl _⟩
      · have := h c c1 (by omega)
        exact ⟨by omega, fun e => by omega⟩
    · rw [if_neg hlt]
      refine ih (i + 1) b (by omega) h1 (fun c c1 c2 => ?_)
      by_cases hc : c = i
      · subst hc; exact ⟨by omega, fun _ => by omega⟩
      · exact h c c1 (by omega)
theorem bestOf_spec (l : List Int) : 1 ≤ bestOf l ∧ bestOf l ≤ 5 ∧ ∀ c, 1 ≤ c → c ≤ 5 → el l (bestOf l) ≤ el l c ∧ (el l c = el l (bestOf l) → bestOf l ≤ c) := by
  have h := bst_spec l 4 2 1 (by omega) (by omega) (fun c c1 c2 => by rw [show c = 1 by omega]; exact ⟨Nat.le_refl _, fun _ => Nat.le_refl _⟩)
  have e : bestOf l = bst l 4 2 1 := by unfold bestOf; rw [bst, if_pos rfl]
  rw [e]
  exact ⟨h.1, by omega, fun c c1 c2 => h.2.2 c c1 (by omega)⟩
/-- What Best answers. -/
def bestAns (l : List Int) : Int × Int := if chk l = 0 then ((bestOf l : Int), 0) else (0, chk l)
theorem Best_ev (l : List Int) : Ev (fun k => encode_Best.f k l) (bestAns l) := by
  unfold encode_Best.f bestAns
  refine Ev.bind (check_ev l) ?_
  by_cases h0 : chk l = 0
  · rw [if_pos h0]
    exact ev_pos h0 (Ev.bind (best_ev (chk_ok.1 h0)) (ev_some _))
  · rw [if_neg h0]
    exact ev_neg h0 (ev_some _)

/-! ### the law -/
theorem awake_e : Ev (fun k => peristylelaw2_awake.f k) true := by
  have key : ∀ d, peristylelaw2_awake.f (30 + d) = some true := by
    intro d
    induction d with
    | zero => decide +kernel
    | succ d ih => exact peristylelaw2_awake.mono _ _ ih
  exact ⟨30, fun k hk => by
    have := key (k - 30)
    rwa [show 30 + (k - 30) = k by omega] at this⟩
end Go.Proofs.Ythhdihnaicggiaa.J
