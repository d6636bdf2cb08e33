/- Distinct values and their places, in plain Lean. No conditions beyond those in each theorem. -/
import Derived.Test.YthhdihnaicggiaaCM6
namespace Go.Proofs.Ythhdihnaicggiaa.C
open Go.RowKit Go.Proofs.YthhdihnaicggiaaW.PrintWords Go.Proofs.YthhdihnaicggiaaW.PrintLast Go.Proofs.YthhdihnaicggiaaW.PrintMore
set_option linter.unusedVariables false
set_option linter.unusedSimpArgs false

/-! ### compacted -/
theorem compactUpTo_sorted {α : Type} [Inhabited α] [DecidableEq α] (le : α → α → Prop) (tr : ∀ a b c, le a b → le b c → le a c) (an : ∀ a b, le a b → le b a → a = b) (rf : ∀ a, le a a) (d : Array α) (hs : ∀ j, j + 1 < d.size → le d[j]! d[j + 1]!) :
    ∀ m, m ≤ d.size → (Lib.compactUpTo d m).Pairwise (fun a b => le a b ∧ a ≠ b) ∧ (0 < m → ∀ x ∈ Lib.compactUpTo d m, le x d[m - 1]!) ∧ (∀ x, x ∈ Lib.compactUpTo d m ↔ ∃ j, j < m ∧ d[j]! = x) := by
  intro m
  induction m with
  | zero => intro _; simp [Lib.compactUpTo]
  | succ m ih =>
    intro hm
    obtain ⟨i1, i2, i3⟩ := ih (by omega)
    rw [Lib.compactUpTo_succ]
    by_cases h0 : m = 0
    · subst h0
      have e : Lib.keeps d 0 = true := Lib.keeps_lt_one d 0 (by omega)
      rw [if_pos e]
      have e0 : Lib.compactUpTo d 0 = [] := rfl
      rw [e0, List.nil_append]
      refine ⟨List.pairwise_singleton .., fun _ x hx => by rw [List.mem_singleton.1 hx]; exact rf _, fun x => ?_⟩
      rw [List.mem_singleton]
      exact ⟨fun h => ⟨0, by omega, h.symm⟩, fun ⟨j, hj, h⟩ => by rw [show j = 0 by omega] at h; exact h.symm⟩
    · have hp := hs (m - 1) (by omega)
      rw [show m - 1 + 1 = m by omega] at hp
      by_cases he : d[m]! = d[m - 1]!
      · rw [Lib.keeps_neg (by omega) he, if_neg (by simp), List.append_nil]
        refine ⟨i1, fun _ x hx => ?_, fun x => ?_⟩
        · rw [Nat.add_sub_cancel, he]
          exact i2 (by omega) x hx
        · rw [i3]
          constructor
          · rintro ⟨j, hj, h⟩; exact ⟨j, by omega, h⟩
          · rintro ⟨j, hj, h⟩
            by_cases hjm : j = m
            · subst hjm; exact ⟨j - 1, by omega, he ▸ h⟩
            · exact ⟨j, by omega, h⟩
      · rw [Lib.keeps_pos he, if_pos rfl]
        refine ⟨?_, fun _ x hx => ?_, fun x => ?_⟩
        · rw [List.pairwise_append]
          refine ⟨i1, by simp, fun a ha b hb => ?_⟩
          rw [List.mem_singleton.1 hb]
          have := i2 (by omega) a ha
          exact ⟨tr _ _ _ this hp, fun h => he (an _ _ (h ▸ this) hp)⟩
        · rw [Nat.add_sub_cancel]
          rcases List.mem_append.1 hx with h | h
          · exact tr _ _ _ (i2 (by omega) x h) hp
          · rw [List.mem_singleton.1 h]; exact rf _
        · rw [List.mem_append, i3, List.mem_singleton]
          constructor
          · rintro (⟨j, hj, h⟩ | h)
            · exact ⟨j, by omega, h⟩
            · exact ⟨m, by omega, h.symm⟩
          · rintro ⟨j, hj, h⟩
            by_cases hjm : j = m
            · subst hjm; exact Or.inr h.symm
            · exact Or.inl ⟨j, by omega, h⟩
theorem compact_sorted {α : Type} [Inhabited α] [DecidableEq α] (le : α → α → Prop) (tr : ∀ a b c, le a b → le b c → le a c) (an : ∀ a b, le a b → le b a → a = b) (rf : ∀ a, le a a) (zs : List α) (hs : zs.Pairwise le) :
    (Lib.compact zs).Pairwise (fun a b => le a b ∧ a ≠ b) ∧ ∀ x, x ∈ Lib.compact zs ↔ x ∈ zs := by
  have hs' : ∀ j, j + 1 < zs.toArray.size → le zs.toArray[j]! zs.toArray[j + 1]! := by
    intro j hj
    have hj' : j + 1 < zs.length := hj
    rw [getElem!_pos zs.toArray j (by omega), getElem!_pos zs.toArray (j + 1) hj]
    exact List.pairwise_iff_getElem.1 hs j (j + 1) (by omega) hj' (by omega)
  obtain ⟨h1, _, h3⟩ := compactUpTo_sorted le tr an rf zs.toArray hs' zs.length (Nat.le_refl _)
  refine ⟨h1, fun x => ?_⟩
  show x ∈ Lib.compactUpTo zs.toArray zs.length ↔ _
  rw [h3]
  constructor
  · rintro ⟨j, hj, h⟩
    rw [getElem!_pos zs.toArray j hj] at h
    rw [← h]
    exact List.getElem_mem hj
  · intro h
    obtain ⟨j, hj, e⟩ := List.getElem_of_mem h
    exact ⟨j, hj, by rw [getElem!_pos zs.toArray j hj]; exact e⟩

/-! ### distinct values -/
/-- The values, sorted, each once. -/
def dst (l : List Int) : List Int := Lib.compact (l.mergeSort fun x y => decide (x ≤ y))
theorem dst_sorted (l : List Int) : (dst l).Pairwise (· < ·) ∧ ∀ x, x ∈ dst l ↔ x ∈ l := by
  have h := List.pairwise_mergeSort (le := fun x y : Int => decide (x ≤ y)) (by intro a b c h1 h2; simp at *; omega) (by intro a b; simp; omega) l
  obtain ⟨h1, h2⟩ := compact_sorted (fun a b : Int => a ≤ b) (fun a b c => Int.le_trans) (fun a b => Int.le_antisymm) Int.le_refl _ (h.imp (fun h => by simpa using h))
  refine ⟨h1.imp (fun ⟨a, b⟩ => by omega), fun x => ?_⟩
  unfold dst
  rw [h2, List.mem_mergeSort]
theorem dst_len (l : List Int) : (dst l).length ≤ l.length := by
  have h := compact_length_le (l.mergeSort fun x y => decide (x ≤ y))
  rw [List.length_mergeSort] at h
  exact h
theorem dst_ne {l : List Int} (h : l ≠ []) : 0 < (dst l).length := by
  cases l with
  | nil => exact absurd rfl h
  | cons a l => exact List.length_pos_of_mem (((dst_sorted (a :: l)).2 a).2 (List.mem_cons_self ..))
/-- A value's place. -/
def pl (d : List Int) (v : Int) : Nat := d.idxOf v
theorem pl_lt {d : List Int} {v : Int} (h : v ∈ d) : pl d v < d.length := List.idxOf_lt_length_of_mem h
theorem pl_get {d : List Int} {v : Int} (h : v ∈ d) : d.getD (pl d v) 0 = v := by
  have := List.getElem_idxOf (pl_lt h)
  simp [List.getD, pl_lt h]
  exact this
theorem pl_iff {d : List Int} (hs : d.Pairwise (· < ·)) {v : Int} (h : v ∈ d) {j : Nat} (hj : j < d.length) : d.getD j 0 < v ↔ j < pl d v := by
  have hg := pl_get h
  have hl := pl_lt h
  have hd : ∀ i, i < d.length → d.getD i 0 = d[i]! := fun i hi => by simp [List.getD, hi]
  have mono : ∀ i j, i < j → j < d.length → d.getD i 0 < d.getD j 0 := fun i j hij hj => by
    have := List.pairwise_iff_getElem.1 hs i j (by omega) hj hij
    simpa [List.getD, hj, show i < d.length by omega] using this
  constructor
  · intro hlt
    rcases Nat.lt_trichotomy j (pl d v) with h1 | h1 | h1
    · exact h1
    · subst h1; omega
    · have := mono _ _ h1 hj; omega
  · intro h1
    have := mono _ _ h1 hl
    omega
theorem less_ev (a b : Int) : cmp_Less_int.f a b = some (decide (a < b)) := by
  simp [cmp_Less_int.f, cmp_isNaN_int.f]
theorem search_ev {d : List Int} (hs : d.Pairwise (· < ·)) (hd : d.length ≤ 100000) {v : Int} (h : v ∈ d) : Ev (fun k => slices_BinarySearch_int_int.f k d v) ((pl d v : Int), true) := by
  have hl := pl_lt h
  have key : ∀ n (i j : Nat), i ≤ pl d v → pl d v ≤ j → j ≤ d.length → j - i ≤ n → Ev (fun k => slices_BinarySearch_int_int.l0 k d v (d.length : Int) (i : Int) (j : Int)) ((pl d v : Int), true) := by
    intro n
    induction n with
    | zero =>
      intro i j hi hj hjl hn
      refine Ev.step (fun k => by rw [slices_BinarySearch_int_int.l0]) (ev_neg (by omega) (ev_pos (by omega) (ev_pos (by omega) (ev_pos (by omega) (ev_pos ?_ ?_)))))
      · rw [rdD, show i = pl d v by omega, pl_get h]
      · rw [show i = pl d v by omega]
        exact ev_some _
    | succ n ih =>
      intro i j hi hj hjl hn
      refine Ev.step (fun k => by rw [slices_BinarySearch_int_int.l0]) ?_
      by_cases hij : i < j
      · have em : wrap64 (IntKind.u64.wrap (wrap64 ((i : Int) + (j : Int))) / 2) = (((i + j) / 2 : Nat) : Int) := by
          rw [w64 (n := (i : Int) + (j : Int)) (by omega) (by omega), u64w, w64 (by omega) (by omega)]
          omega
        rw [em, rdD, less_ev]
        refine ev_pos (by omega) (ev_pos (by omega) (ev_pos (by omega) (Ev.bind (ev_some _) ?_)))
        by_cases hlt : d.getD ((i + j) / 2) 0 < v
        · have := (pl_iff hs h (by omega)).1 hlt
          refine ev_pos (by simpa using hlt) ?_
          rw [w64 (by omega) (by omega)]
          exact ih ((i + j) / 2 + 1) j (by omega) hj hjl (by omega)
        · have hnl : ¬ (i + j) / 2 < pl d v := fun h' => hlt ((pl_iff hs h (by omega)).2 h')
          refine ev_neg (by simpa using hlt) ?_
          exact ih i ((i + j) / 2) hi (by omega) (by omega) (by omega)
      · refine ev_neg (by omega) (ev_pos (by omega) (ev_pos (by omega) (ev_pos (by omega) (ev_pos ?_ ?_))))
        · rw [rdD, show i = pl d v by omega, pl_get h]
        · rw [show i = pl d v by omega]
          exact ev_some _
  exact key _ 0 d.length (by omega) (by omega) (Nat.le_refl _) (Nat.le_refl _)
/-- All values' places. -/
def pls (l : List Int) : List Int := l.map fun v => (pl (dst l) v : Int)
theorem pls_len (l : List Int) : (pls l).length = l.length := by simp [pls]
theorem pls_range {l : List Int} : ∀ x ∈ pls l, 0 ≤ x ∧ x < ((dst l).length : Int) := by
  intro x hx
  obtain ⟨v, hv, rfl⟩ := List.mem_map.1 hx
  have := pl_lt (((dst_sorted l).2 v).2 hv)
  omega
theorem distinct_ev {l : List Int} (hl : l.length ≤ 2000) : Ev (fun k => encode_distinct.f k l) (dst l, pls l) := by
  have hd := dst_len l
  have hs := dst_sorted l
  have key : ∀ n (i : Nat), i ≤ l.length → l.length - i ≤ n → Ev (fun k => encode_distinct.l0 k (dst l) ((l.take i).map fun v => (pl (dst l) v : Int)) l (l.length : Int) (i : Int)) (dst l, pls l) := by
    intro n
    induction n with
    | zero =>
      intro i hi hn
      refine Ev.step (fun k => by rw [encode_distinct.l0]) (ev_neg (by omega) ?_)
      rw [List.take_of_length_le (by omega)]
      exact ev_some _
    | succ n ih =>
      intro i hi hn
      refine Ev.step (fun k => by rw [encode_distinct.l0]) ?_
      by_cases hlt : i < l.length
      · have hm : l.getD i 0 ∈ l := by
          simp only [List.getD, List.getElem?_eq_getElem hlt, Option.getD_some]
          exact List.getElem_mem hlt
        refine ev_pos (by omega) (ev_pos (by omega) (ev_pos (by omega) ?_))
        rw [rdD]
        refine Ev.bind (search_ev hs.1 (by omega) ((hs.2 _).2 hm)) (ev_pos (by simp; omega) ?_)
        rw [w64 (by omega) (by omega)]
        have := ih (i + 1) (by omega) (by omega)
        rw [List.take_add_one, List.map_append] at this
        simpa [List.getD, hlt] using this
      · refine ev_neg (by omega) ?_
        rw [List.take_of_length_le (by omega)]
        exact ev_some _
  unfold encode_distinct.f slices_Clone_int_int.f slices_Sort_int_int.f slices_Compact_int_int.f
  rw [if_pos (show l.length * 8 ≤ 140737488355328 by omega)]
  refine Ev.bind (ev_some _) ?_
  rw [if_pos (show l.length < 4611686018427387904 by omega)]
  refine Ev.bind (ev_some _) (Ev.bind (ev_some _) ?_)
  exact key _ 0 (by omega) (Nat.le_refl _)

theorem width_ev {x : Int} (h0 : 0 ≤ x) (h1 : x < 9223372036854775808) : encode_widthOf.f x = some ((Lib.bitLen x.toNat : Nat) : Int) := by
  unfold encode_widthOf.f bits_Len.f
  rw [u64w, Int.emod_eq_of_lt h0 (by omega), if_pos ⟨h0, by omega⟩]
  rfl
end Go.Proofs.Ythhdihnaicggiaa.C
