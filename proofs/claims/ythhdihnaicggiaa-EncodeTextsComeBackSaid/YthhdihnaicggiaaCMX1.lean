/- Texts, in plain Lean: their order, the distinct ones, what the program writes of them. No conditions beyond those in each theorem. -/
import Derived.Test.YthhdihnaicggiaaCMA
import Derived.Test.YthhdihnaicggiaaCM9
import Derived.Sort.Walk0
import Derived.Lib.Strings
import Derived.Lib.ItoaNum
namespace Go.Proofs.Ythhdihnaicggiaa.C
open Go.RowKit Go.Proofs.YthhdihnaicggiaaW.PrintWords Go.Proofs.YthhdihnaicggiaaW.PrintLast Go.Proofs.YthhdihnaicggiaaW.PrintMore
set_option linter.unusedVariables false
set_option linter.unusedSimpArgs false

/-! ### bytes and texts -/
def mk8 (l : List UInt8) : ByteArray := ⟨l.toArray⟩
theorem mk8_data (l : List UInt8) : (mk8 l).data.toList = l := by simp [mk8]
theorem mk8_of (s : ByteArray) : mk8 s.data.toList = s := by simp [mk8]
theorem size8 (s : ByteArray) : s.data.toList.length = s.size := by rw [Array.length_toList]; rfl
theorem mk8_size (l : List UInt8) : (mk8 l).size = l.length := by rw [← size8, mk8_data]
theorem ext8 {s t : ByteArray} (h : s.data.toList = t.data.toList) : s = t := by rw [← mk8_of s, ← mk8_of t, h]
theorem bless (a b : ByteArray) : Op.bytesLess a.toList b.toList = decide (a.data.toList < b.data.toList) := by rw [bytesLess_eq, Lib.toList_data, Lib.toList_data]
def n8 (l : List UInt8) : List Int := l.map fun b => (b.toNat : Int)
theorem n8_of (s : ByteArray) : bytesOf s = n8 s.data.toList := rfl
theorem n8_len (l : List UInt8) : (n8 l).length = l.length := by simp [n8]
theorem n8_byt (l : List UInt8) : Byt (n8 l) := by
  intro x hx
  obtain ⟨b, _, rfl⟩ := List.mem_map.1 hx
  have := UInt8.toNat_lt b
  omega
theorem str_n8 (l : List UInt8) : strOfNums (n8 l) = mk8 l := by
  refine ext8 ?_
  rw [mk8_data]
  show (n8 l).map (fun n => UInt8.ofNat n.toNat) = l
  unfold n8
  rw [List.map_map]
  conv => rhs; rw [← List.map_id l]
  refine List.map_congr_left fun b _ => ?_
  simp
theorem btD {s : ByteArray} {i : Nat} (h : i < s.size) : bt s (i : Int) = ((s.data.toList.getD i 0).toNat : Int) := by
  have hl : i < s.data.toList.length := by rw [size8]; exact h
  unfold bt
  rw [dif_pos (show (i : Int).toNat < s.size by simpa using h)]
  simp only [Int.toNat_natCast, List.getD, List.getElem?_eq_getElem hl, Option.getD_some]
  rfl

/-! ### what is checked -/
def okb (b : UInt8) : Bool := decide (32 ≤ (b.toNat : Int)) && decide ((b.toNat : Int) ≤ 126)
/-- What CheckValue answers of a text. -/
def cv (s : ByteArray) : Int := if s.size > 200 then 2 else if s.data.toList.all okb then 0 else 3
theorem cv_ev (s : ByteArray) : Ev (fun k => value_CheckValue.f k 3 0 s) (cv s) := by
  unfold value_CheckValue.f cv
  refine ev_neg (by omega) (ev_neg (by omega) (Ev.step (fun k => by rw [value_CheckValue.j0]) (ev_neg (by simp) (ev_pos rfl (ev_pos rfl ?_)))))
  by_cases hb : s.size > 200
  · rw [if_pos hb]
    exact ev_pos (by omega) (ev_some _)
  · rw [if_neg hb]
    refine ev_neg (by omega) ?_
    have key : ∀ d i : Nat, i ≤ s.size → s.size - i ≤ d → Ev (fun k => value_CheckValue.l0 k (s.size : Int) (i : Int) 3 0 s) (if (s.data.toList.drop i).all okb then 0 else 3) := by
      intro d
      induction d with
      | zero =>
        intro i hi hd
        refine Ev.step (fun k => by rw [value_CheckValue.l0]) (ev_neg (by omega) ?_)
        rw [List.drop_eq_nil_of_le (by rw [size8]; omega)]
        exact ev_some _
      | succ d ih =>
        intro i hi hd
        refine Ev.step (fun k => by rw [value_CheckValue.l0]) ?_
        by_cases hlt : i < s.size
        · have hl : i < s.data.toList.length := by rw [size8]; exact hlt
          have h255 := UInt8.toNat_lt (s.data.toList.getD i 0)
          refine ev_pos (by omega) (ev_pos (by omega) (ev_pos (by omega) ?_))
          rw [btD hlt, w64 (n := ((s.data.toList.getD i 0).toNat : Int)) (by omega) (by omega), in_eq, getD_drop_head (d := 0) hl, List.all_cons]
          refine Ev.bind (ev_some _) ?_
          by_cases ho : okb (s.data.toList.getD i 0) = true
          · rw [ho, Bool.true_and]
            refine ev_pos ho ?_
            rw [w64 (by omega) (by omega)]
            exact ih (i + 1) (by omega) (by omega)
          · rw [eq_false_of_ne_true ho, Bool.false_and, if_neg (by simp)]
            exact ev_neg ho (ev_some _)
        · refine ev_neg (by omega) ?_
          rw [List.drop_eq_nil_of_le (by rw [size8]; omega)]
          exact ev_some _
    have := key s.size 0 (by omega) (by omega)
    simpa using this
def chkL : List ByteArray → Int
  | [] => 0
  | s :: t => if cv s = 0 then chkL t else cv s
/-- What checkTexts answers. -/
def chkT (l : List ByteArray) : Int := if l.length > 2000 then 2 else chkL l
def OkT (l : List ByteArray) : Prop := l.length ≤ 2000 ∧ ∀ s ∈ l, cv s = 0
theorem chkL_ok : ∀ l : List ByteArray, chkL l = 0 ↔ ∀ s ∈ l, cv s = 0
  | [] => by simp [chkL]
  | s :: t => by
    rw [chkL]
    by_cases h : cv s = 0
    · rw [if_pos h, chkL_ok t]; simp [h]
    · rw [if_neg h]; simp [h]
theorem chkT_ok {l : List ByteArray} : chkT l = 0 ↔ OkT l := by
  unfold chkT OkT
  by_cases h : l.length > 2000
  · rw [if_pos h]
    exact ⟨fun h' => absurd h' (by decide), fun h' => by omega⟩
  · rw [if_neg h, chkL_ok]
    exact ⟨fun h' => ⟨by omega, h'⟩, fun h' => h'.2⟩
theorem rdTe (l : List ByteArray) (i : Nat) : rdOf ByteArray.empty l (i : Int) = l.getD i ByteArray.empty := by simp [rdOf]
theorem checkT_ev (l : List ByteArray) : Ev (fun k => encode_checkTexts.f k l) (chkT l) := by
  unfold encode_checkTexts.f chkT
  by_cases h : l.length > 2000
  · rw [if_pos h]
    exact ev_pos (by omega) (ev_some _)
  · rw [if_neg h]
    refine ev_neg (by omega) ?_
    have key : ∀ d i : Nat, i ≤ l.length → l.length - i ≤ d → Ev (fun k => encode_checkTexts.l0 k l (l.length : Int) (i : Int)) (chkL (l.drop i)) := by
      intro d
      induction d with
      | zero =>
        intro i hi hd
        refine Ev.step (fun k => by rw [encode_checkTexts.l0]) (ev_neg (by omega) ?_)
        rw [List.drop_eq_nil_of_le (by omega)]
        exact ev_some _
      | succ d ih =>
        intro i hi hd
        refine Ev.step (fun k => by rw [encode_checkTexts.l0]) ?_
        by_cases hlt : i < l.length
        · refine ev_pos (by omega) (ev_pos (by omega) (ev_pos (by omega) ?_))
          rw [rdTe, getD_drop_head (d := ByteArray.empty) hlt, chkL]
          refine Ev.bind (show Ev (fun k => kit_Text.f (l.getD i ByteArray.empty)) (3, 0, l.getD i ByteArray.empty) from ev_some _) (Ev.bind (cv_ev _) ?_)
          by_cases h0 : cv (l.getD i ByteArray.empty) = 0
          · rw [show (if cv (l.getD i ByteArray.empty) = 0 then chkL (l.drop (i + 1)) else cv (l.getD i ByteArray.empty)) = chkL (l.drop (i + 1)) from if_pos h0]
            refine ev_pos h0 ?_
            rw [w64 (by omega) (by omega)]
            exact ih (i + 1) (by omega) (by omega)
          · rw [show (if cv (l.getD i ByteArray.empty) = 0 then chkL (l.drop (i + 1)) else cv (l.getD i ByteArray.empty)) = cv (l.getD i ByteArray.empty) from if_neg h0]
            exact ev_neg h0 (ev_some _)
        · refine ev_neg (by omega) ?_
          rw [List.drop_eq_nil_of_le (by omega)]
          exact ev_some _
    have := key l.length 0 (by omega) (by omega)
    simpa using this
theorem cv_size {s : ByteArray} (h : cv s = 0) : s.size ≤ 200 := by
  unfold cv at h
  split at h
  · exact absurd h (by decide)
  · omega

/-! ### distinct texts and their places -/
def l8 (l : List ByteArray) : List (List UInt8) := l.map fun s => s.data.toList
def dsT (l : List ByteArray) : List (List UInt8) := Lib.compact ((l8 l).mergeSort fun x y => decide (x ≤ y))
theorem lt_of_le8 {a b : List UInt8} (h : a ≤ b) (n : a ≠ b) : a < b := by
  rcases Classical.em (a < b) with h1 | h1
  · exact h1
  · exact absurd (List.le_antisymm h (List.not_lt.1 h1)) n
theorem dsT_sorted (l : List ByteArray) : (dsT l).Pairwise (· < ·) ∧ ∀ x, x ∈ dsT l ↔ x ∈ l8 l := by
  have h := List.pairwise_mergeSort (le := fun x y : List UInt8 => decide (x ≤ y)) (by intro a b c h1 h2; rw [decide_eq_true_eq] at *; exact List.le_trans h1 h2) (by intro a b; rw [Bool.or_eq_true, decide_eq_true_eq, decide_eq_true_eq]; exact List.le_total a b) (l8 l)
  obtain ⟨h1, h2⟩ := compact_sorted (fun a b : List UInt8 => a ≤ b) (fun a b c => List.le_trans) (fun a b => List.le_antisymm) List.le_refl _ (h.imp (fun h => by simpa using h))
  refine ⟨h1.imp (fun ⟨a, b⟩ => lt_of_le8 a b), fun x => ?_⟩
  unfold dsT
  rw [h2, List.mem_mergeSort]
theorem dsT_len (l : List ByteArray) : (dsT l).length ≤ l.length := by
  have h := compact_length_le ((l8 l).mergeSort fun x y => decide (x ≤ y))
  rw [List.length_mergeSort] at h
  unfold dsT
  simpa [l8] using h
theorem dsT_ne {l : List ByteArray} (h : l ≠ []) : 0 < (dsT l).length := by
  cases l with
  | nil => exact absurd rfl h
  | cons a l => exact List.length_pos_of_mem (((dsT_sorted (a :: l)).2 a.data.toList).2 (by simp [l8]))
theorem dsT_size {l : List ByteArray} (h : OkT l) : ∀ x ∈ dsT l, x.length ≤ 200 := by
  intro x hx
  obtain ⟨s, hs, rfl⟩ := List.mem_map.1 (((dsT_sorted l).2 x).1 hx)
  rw [size8]
  exact cv_size (h.2 s hs)
def plT (d : List (List UInt8)) (v : List UInt8) : Nat := d.idxOf v
theorem plT_lt {d : List (List UInt8)} {v : List UInt8} (h : v ∈ d) : plT d v < d.length := List.idxOf_lt_length_of_mem h
theorem plT_get {d : List (List UInt8)} {v : List UInt8} (h : v ∈ d) : d.getD (plT d v) [] = v := by
  have := List.getElem_idxOf (plT_lt h)
  simp [List.getD, plT_lt h]
  exact this
theorem plT_iff {d : List (List UInt8)} (hs : d.Pairwise (· < ·)) {v : List UInt8} (h : v ∈ d) {j : Nat} (hj : j < d.length) : d.getD j [] < v ↔ j < plT d v := by
  have hg := plT_get h
  have hl := plT_lt h
  have mono : ∀ i j, i < j → j < d.length → d.getD i [] < d.getD j [] := fun i j hij hj => by
    have := List.pairwise_iff_getElem.1 hs i j (by omega) hj hij
    simpa [List.getD, hj, show i < d.length by omega] using this
  constructor
  · intro hlt
    rcases Nat.lt_trichotomy j (plT d v) with h1 | h1 | h1
    · exact h1
    · subst h1; rw [hg] at hlt; exact absurd hlt (List.lt_irrefl v)
    · have := mono _ _ h1 hj; rw [hg] at this; exact absurd hlt (List.lt_asymm this)
  · intro h1
    have := mono _ _ h1 hl
    rwa [hg] at this
theorem lessT (a b : ByteArray) : cmp_Less_string.f a b = some (decide (a.data.toList < b.data.toList)) := by
  rw [← bless]
  simp [cmp_Less_string.f, cmp_isNaN_string.f]
theorem rdTm (d : List (List UInt8)) (i : Nat) : rdOf ByteArray.empty (d.map mk8) (i : Int) = mk8 (d.getD i []) := by
  rw [rdTe, List.getD, List.getD, List.getElem?_map]
  cases d[i]? with
  | none => rfl
  | some x => rfl
theorem searchT {d : List (List UInt8)} (hs : d.Pairwise (· < ·)) (hd : d.length ≤ 100000) {v : ByteArray} (h : v.data.toList ∈ d) : Ev (fun k => slices_BinarySearch_string_string.f k (d.map mk8) v) ((plT d v.data.toList : Int), true) := by
  have hl := plT_lt h
  have hlen : (d.map mk8).length = d.length := by simp
  have fin : ∀ i j : Nat, i = plT d v.data.toList → ¬ i < j → Ev (fun k => slices_BinarySearch_string_string.l0 k (d.map mk8) v (d.length : Int) (i : Int) (j : Int)) ((plT d v.data.toList : Int), true) := by
    intro i j hi hij
    refine Ev.step (fun k => by rw [slices_BinarySearch_string_string.l0]) (ev_neg (by omega) (ev_pos (by omega) (ev_pos (by omega) (ev_pos (by omega) (ev_pos ?_ ?_)))))
    · rw [rdTm, hi, plT_get h, mk8_of]
    · rw [hi]
      exact ev_some _
  have key : ∀ n (i j : Nat), i ≤ plT d v.data.toList → plT d v.data.toList ≤ j → j ≤ d.length → j - i ≤ n → Ev (fun k => slices_BinarySearch_string_string.l0 k (d.map mk8) v (d.length : Int) (i : Int) (j : Int)) ((plT d v.data.toList : Int), true) := by
    intro n
    induction n with
    | zero => intro i j hi hj hjl hn; exact fin i j (by omega) (by omega)
    | succ n ih =>
      intro i j hi hj hjl hn
      by_cases hij : i < j
      · have em : wrap64 (IntKind.u64.wrap (wrap64 ((i : Int) + (j : Int))) / 2) = (((i + j) / 2 : Nat) : Int) := by
          rw [w64 (n := (i : Int) + (j : Int)) (by omega) (by omega), u64w, w64 (by omega) (by omega)]
          omega
        refine Ev.step (fun k => by rw [slices_BinarySearch_string_string.l0]) ?_
        rw [em, rdTm, lessT, mk8_data]
        refine ev_pos (by omega) (ev_pos (by omega) (ev_pos (by omega) (Ev.bind (ev_some _) ?_)))
        by_cases hlt : d.getD ((i + j) / 2) [] < v.data.toList
        · have := (plT_iff hs h (by omega)).1 hlt
          refine ev_pos (by simpa using hlt) ?_
          rw [w64 (by omega) (by omega)]
          exact ih ((i + j) / 2 + 1) j (by omega) hj hjl (by omega)
        · have hnl : ¬ (i + j) / 2 < plT d v.data.toList := fun h' => hlt ((plT_iff hs h (by omega)).2 h')
          refine ev_neg (by simpa using hlt) ?_
          exact ih i ((i + j) / 2) hi (by omega) (by omega) (by omega)
      · exact fin i j (by omega) hij
  unfold slices_BinarySearch_string_string.f
  rw [hlen]
  exact key _ 0 d.length (by omega) (by omega) (Nat.le_refl _) (Nat.le_refl _)
def plsT (l : List ByteArray) : List Int := l.map fun s => (plT (dsT l) s.data.toList : Int)
theorem plsT_len (l : List ByteArray) : (plsT l).length = l.length := by simp [plsT]
theorem plsT_range {l : List ByteArray} : ∀ x ∈ plsT l, 0 ≤ x ∧ x < ((dsT l).length : Int) := by
  intro x hx
  obtain ⟨s, hs, rfl⟩ := List.mem_map.1 hx
  have := plT_lt (((dsT_sorted l).2 s.data.toList).2 (List.mem_map.2 ⟨s, hs, rfl⟩))
  omega

/-! ### common beginnings -/
def comL : List UInt8 → List UInt8 → Nat
  | x :: a, y :: b => if x = y then comL a b + 1 else 0
  | [], _ => 0
  | _ :: _, [] => 0
theorem comL_le : ∀ a b : List UInt8, comL a b ≤ a.length ∧ comL a b ≤ b.length
  | [], b => by simp [comL]
  | _ :: _, [] => by simp [comL]
  | x :: a, y :: b => by
    have := comL_le a b
    rw [comL]
    split <;> simp <;> omega
theorem comL_take : ∀ a b : List UInt8, a.take (comL a b) = b.take (comL a b)
  | [], b => by simp [comL]
  | _ :: _, [] => by simp [comL]
  | x :: a, y :: b => by
    rw [comL]
    split
    · rename_i h
      rw [List.take_succ_cons, List.take_succ_cons, comL_take a b, h]
    · simp
theorem com_ev {a b : ByteArray} (ha : a.size ≤ 100000) : Ev (fun k => encode_common.f k a b) (comL a.data.toList b.data.toList : Int) := by
  have key : ∀ n i : Nat, a.size - i ≤ n → i ≤ a.size → i ≤ b.size → Ev (fun k => encode_common.l0 k a b (i : Int)) ((i + comL (a.data.toList.drop i) (b.data.toList.drop i) : Nat) : Int) := by
    intro n
    induction n with
    | zero =>
      intro i hn hi hj
      refine Ev.step (fun k => by rw [encode_common.l0]) (ev_neg (by omega) ?_)
      rw [List.drop_eq_nil_of_le (show a.data.toList.length ≤ i by rw [size8]; omega)]
      exact ev_some _
    | succ n ih =>
      intro i hn hi hj
      refine Ev.step (fun k => by rw [encode_common.l0]) ?_
      by_cases h1 : i < a.size
      · refine ev_pos (by omega) ?_
        by_cases h2 : i < b.size
        · have l1 : i < a.data.toList.length := by rw [size8]; exact h1
          have l2 : i < b.data.toList.length := by rw [size8]; exact h2
          refine ev_pos (by omega) (ev_pos (by omega) ?_)
          rw [btD h1, btD h2, getD_drop_head (d := 0) l1, getD_drop_head (d := 0) l2, comL]
          by_cases he : a.data.toList.getD i 0 = b.data.toList.getD i 0
          · rw [if_pos he]
            refine ev_pos (by rw [he]) ?_
            rw [w64 (by omega) (by omega)]
            exact ev_eq (ih (i + 1) (by omega) (by omega) (by omega)) (by omega)
          · rw [if_neg he]
            refine ev_neg (fun h => he (UInt8.toNat_inj.1 (by omega))) (ev_some _)
        · refine ev_neg (by omega) ?_
          rw [List.drop_eq_nil_of_le (show b.data.toList.length ≤ i by rw [size8]; omega)]
          exact ev_eq (ev_some _) (by cases a.data.toList.drop i <;> simp [comL])
      · refine ev_neg (by omega) ?_
        rw [List.drop_eq_nil_of_le (show a.data.toList.length ≤ i by rw [size8]; omega)]
        exact ev_some _
  have := key a.size 0 (by omega) (by omega) (by omega)
  unfold encode_common.f
  simpa using this
theorem ext_drop (l : List UInt8) (i : Nat) (h : i ≤ l.length) : (mk8 l).extract i l.length = mk8 (l.drop i) := by
  refine ext8 ?_
  rw [mk8_data]
  simp [mk8, List.take_of_length_le]
theorem ext_take (l : List UInt8) (i : Nat) : (mk8 l).extract 0 i = mk8 (l.take i) := by
  refine ext8 ?_
  rw [mk8_data]
  simp [mk8]
end Go.Proofs.Ythhdihnaicggiaa.C
