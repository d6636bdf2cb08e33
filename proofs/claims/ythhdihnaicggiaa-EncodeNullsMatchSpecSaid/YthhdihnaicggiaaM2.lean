/- Runs of bools in plain Lean: what the program and the reference write and read. No conditions beyond those in each theorem. -/
import Derived.Test.YthhdihnaicggiaaM1
import Derived.Test.YthhdihnaicggiaaG5
namespace Go.Proofs.Ythhdihnaicggiaa.G
open Go.RowKit Go.Proofs.YthhdihnaicggiaaW.PrintWords Go.Proofs.YthhdihnaicggiaaW.PrintLast Go.Proofs.YthhdihnaicggiaaW.PrintMore
set_option linter.unusedVariables false
set_option linter.unusedSimpArgs false

/-! ### runs of bools -/
/-- How many of a list are alike at its head. -/
def hd (b : Bool) : List Bool → Nat
  | [] => 0
  | c :: l => if c = b then hd b l + 1 else 0
theorem hd_le (b : Bool) (l : List Bool) : hd b l ≤ l.length := by
  induction l with
  | nil => simp [hd]
  | cons c l ih =>
    unfold hd
    split
    · simp; exact ih
    · simp
/-- The runs of a list, as counts. -/
def runs : List Bool → List Int
  | [] => []
  | b :: l => cnt (hd b l + 1) ++ runs (l.drop (hd b l))
termination_by l => l.length
decreasing_by simp; omega
theorem runs_cons (b : Bool) (l : List Bool) : runs (b :: l) = cnt (hd b l + 1) ++ runs (l.drop (hd b l)) := by rw [runs]
/-- What is written of bools. -/
def nb (l : List Bool) : List Int := match l with
  | [] => []
  | b :: t => (if b then 1 else 0) :: runs (b :: t)
theorem runs_len (n : Nat) : ∀ l : List Bool, l.length ≤ n → l.length ≤ 2000 → (runs l).length ≤ 10 * l.length := by
  induction n with
  | zero =>
    intro l hl _
    have : l = [] := List.eq_nil_of_length_eq_zero (by omega)
    subst this
    simp [runs]
  | succ n ih =>
    intro l hl h2
    cases l with
    | nil => simp [runs]
    | cons b l =>
      rw [runs_cons, List.length_append]
      have h1 := hd_le b l
      have := ih (l.drop (hd b l)) (by simp at hl ⊢; omega) (by simp at h2 ⊢; omega)
      have h3 : hd b l + 1 < 18446744073709551616 := by simp at h2; omega
      have := cnt_len10 h3
      simp at *
      omega
theorem nb_len {l : List Bool} (h : l.length ≤ 2000) : (nb l).length ≤ 20001 := by
  cases l with
  | nil => simp [nb]
  | cons b t =>
    have := runs_len _ (b :: t) (Nat.le_refl _) h
    simp only [nb, List.length_cons] at *
    omega
theorem hd_get {b : Bool} {l : List Bool} {j : Nat} (h : j < hd b l) : l[j]? = some b := by
  induction l generalizing j with
  | nil => simp [hd] at h
  | cons c l ih =>
    unfold hd at h
    split at h
    · rename_i hc
      cases j with
      | zero => simp [hc]
      | succ j => simpa using ih (by omega)
    · omega
theorem hd_end {b : Bool} {l : List Bool} (h : hd b l < l.length) : l[hd b l]? = some (!b) := by
  induction l with
  | nil => simp at h
  | cons c l ih =>
    unfold hd at h ⊢
    split at h
    · rename_i hc
      rw [if_pos hc]
      simpa using ih (by simpa using h)
    · rename_i hc
      rw [if_neg hc]
      cases b <;> cases c <;> simp at hc ⊢
theorem rdB (x : List Bool) (i : Nat) : rdOf false x (i : Int) = x.getD i false := by simp [rdOf]

theorem nb_l1 (x : List Bool) (hx : x.length ≤ 2000) (out : List Int) (i : Nat) (b : Bool) (t : List Bool) (hd_ : x.drop i = b :: t) (r : List Int) (e : Nat) :
    ∀ j, hd b t = j + e → Ev (fun k => (encode_count.f k out (IntKind.u64.wrap ((hd b t + 1 : Nat) : Int))).bind fun t256 => encode_nullBytes.l0 k x t256 ((i + (hd b t + 1) : Nat) : Int)) r →
      Ev (fun k => encode_nullBytes.l1 k x out (i : Int) ((j + 1 : Nat) : Int)) r := by
  have hlen : x.length = i + (t.length + 1) := by
    have := congrArg List.length hd_
    simp at this
    omega
  have hget : ∀ q, x[i + q]? = (b :: t)[q]? := by
    intro q
    rw [← hd_, List.getElem?_drop]
  have hle := hd_le b t
  have hi0 : x.getD i false = b := by
    have := hget 0
    simp at this
    simp [List.getD, this]
  induction e with
  | zero =>
    intro j hj h
    refine Ev.step (fun k => by rw [encode_nullBytes.l1]) ?_
    have e1 : wrap64 ((i : Int) + ((j + 1 : Nat) : Int)) = ((i + (j + 1) : Nat) : Int) := by rw [w64 (by omega) (by omega)]; omega
    rw [e1]
    by_cases hin : i + (j + 1) < x.length
    · have hnx : x.getD (i + (j + 1)) false = !b := by
        have h1 := hget (j + 1)
        have h2 := hd_end (b := b) (l := t) (by omega)
        have hj' : hd b t = j := by omega
        rw [hj'] at h2
        simp only [List.getElem?_cons_succ, h2] at h1
        simp [List.getD, h1]
      refine ev_pos (by omega) (ev_pos (by omega) (ev_pos (by omega) (ev_pos (by omega) (ev_neg ?_ ?_))))
      · rw [rdB, rdB, hnx, hi0]
        cases b <;> simp
      · have hj' : j = hd b t := by omega
        subst hj'
        exact h
    · refine ev_neg (by omega) ?_
      have hj' : j = hd b t := by omega
      subst hj'
      exact h
  | succ e ih =>
    intro j hj h
    refine Ev.step (fun k => by rw [encode_nullBytes.l1]) ?_
    have e1 : wrap64 ((i : Int) + ((j + 1 : Nat) : Int)) = ((i + (j + 1) : Nat) : Int) := by rw [w64 (by omega) (by omega)]; omega
    have e2 : wrap64 (((j + 1 : Nat) : Int) + 1) = ((j + 1 + 1 : Nat) : Int) := by rw [w64 (by omega) (by omega)]; omega
    rw [e1, e2]
    have hnx : x.getD (i + (j + 1)) false = b := by
      have h1 := hget (j + 1)
      have h2 := hd_get (b := b) (l := t) (j := j) (by omega)
      simp only [List.getElem?_cons_succ, h2] at h1
      simp [List.getD, h1]
    refine ev_pos (by omega) (ev_pos (by omega) (ev_pos (by omega) (ev_pos (by omega) (ev_pos ?_ ?_))))
    · rw [rdB, rdB, hnx, hi0]
      simp
    · exact ih (j + 1) (by omega) h

theorem nb_l0 (x : List Bool) (hx : x.length ≤ 2000) (d : Nat) : ∀ (i : Nat) (out : List Int), 0 < i → i ≤ x.length → x.length - i ≤ d → out.length + 10 * (x.length - i) ≤ 1000000 →
    Ev (fun k => encode_nullBytes.l0 k x out (i : Int)) (out ++ runs (x.drop i)) := by
  induction d with
  | zero =>
    intro i out h0 hi hdd ho
    refine Ev.step (fun k => by rw [encode_nullBytes.l0]) ?_
    refine ev_neg (by omega) ?_
    have : x.drop i = [] := List.drop_eq_nil_of_le (by omega)
    rw [this]
    simpa [runs] using ev_some out
  | succ d ih =>
    intro i out h0 hi hdd ho
    by_cases hlt : i < x.length
    · obtain ⟨b, t, hbt⟩ : ∃ b t, x.drop i = b :: t := by
        cases h : x.drop i with
        | nil => have := congrArg List.length h; simp at this; omega
        | cons b t => exact ⟨b, t, rfl⟩
      have hlen : x.length = i + (t.length + 1) := by
        have := congrArg List.length hbt
        simp at this
        omega
      have hle := hd_le b t
      refine Ev.step (fun k => by rw [encode_nullBytes.l0]) ?_
      refine ev_pos (by omega) (ev_neg (by omega) ?_)
      refine Ev.step (fun k => by rw [encode_nullBytes.j1]) ?_
      refine nb_l1 x hx out i b t hbt _ (hd b t) 0 (by omega) ?_
      rw [u64w, Int.emod_eq_of_lt (by omega) (by omega)]
      refine Ev.bind (count_ev (by omega) (by omega)) ?_
      have hcl := cnt_len10 (n := hd b t + 1) (by omega)
      have := ih (i + (hd b t + 1)) (out ++ cnt (hd b t + 1)) (by omega) (by omega) (by omega) (by simp; omega)
      refine ev_eq this ?_
      rw [hbt, runs_cons, List.append_assoc, ← List.drop_drop, hbt, List.drop_succ_cons]
    · refine Ev.step (fun k => by rw [encode_nullBytes.l0]) ?_
      refine ev_neg (by omega) ?_
      have : x.drop i = [] := List.drop_eq_nil_of_le (by omega)
      rw [this]
      simpa [runs] using ev_some out
theorem nullBytes_ev {x : List Bool} (hx : x.length ≤ 2000) : Ev (fun k => encode_nullBytes.f k x) (nb x) := by
  cases x with
  | nil =>
    refine Ev.step (fun k => by rw [encode_nullBytes.f, encode_nullBytes.l0]) ?_
    exact ev_neg (by simp) (ev_some _)
  | cons b t =>
    have key : ∀ (o : Int), Ev (fun k => encode_nullBytes.j1 k (b :: t) [o] 0) (o :: runs (b :: t)) := by
      intro o
      refine Ev.step (fun k => by rw [encode_nullBytes.j1]) ?_
      have hle := hd_le b t
      have hx' : t.length + 1 ≤ 2000 := hx
      refine nb_l1 (b :: t) hx [o] 0 b t rfl _ (hd b t) 0 (by omega) ?_
      rw [u64w, Int.emod_eq_of_lt (by omega) (by omega)]
      refine Ev.bind (count_ev (by omega) (by simp)) ?_
      have hcl := cnt_len10 (n := hd b t + 1) (by omega)
      have := nb_l0 (b :: t) hx _ (0 + (hd b t + 1)) ([o] ++ cnt (hd b t + 1)) (by omega) (by simp; omega) (Nat.le_refl _) (by simp; omega)
      refine ev_eq this ?_
      rw [runs_cons, Nat.zero_add, List.drop_succ_cons]
      simp
    refine Ev.step (fun k => by rw [encode_nullBytes.f, encode_nullBytes.l0]) ?_
    refine ev_pos (by simp) (ev_pos rfl (ev_pos (by simp) ?_))
    refine Ev.bind (ev_some _) (ev_pos (by simp) ?_)
    cases b with
    | true => exact ev_pos rfl (ev_pos (by simp) (key 1))
    | false => exact ev_neg (by simp [rdOf]) (key 0)
end Go.Proofs.Ythhdihnaicggiaa.G
