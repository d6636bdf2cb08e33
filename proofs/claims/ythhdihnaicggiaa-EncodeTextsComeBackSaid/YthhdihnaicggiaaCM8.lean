/- What whole numbers are encoded as, with each code, in plain Lean; and that the program encodes so. No conditions beyond those in each theorem. -/
import Derived.Test.YthhdihnaicggiaaCM7
namespace Go.Proofs.Ythhdihnaicggiaa.C
open Go.RowKit Go.Proofs.YthhdihnaicggiaaW.PrintWords Go.Proofs.YthhdihnaicggiaaW.PrintLast Go.Proofs.YthhdihnaicggiaaW.PrintMore
set_option linter.unusedVariables false
set_option linter.unusedSimpArgs false

/-- Values that may be encoded. -/
def Okv (l : List Int) : Prop := l.length ≤ 2000 ∧ ∀ v ∈ l, -1000000000000000 ≤ v ∧ v ≤ 1000000000000000
theorem mem_getD {l : List Int} {i : Nat} (h : i < l.length) : l.getD i 0 ∈ l := by
  simp only [List.getD, List.getElem?_eq_getElem h, Option.getD_some]
  exact List.getElem_mem h

theorem wadd (i j : Nat) (h : i + j ≤ 9223372036854775807) : wrap64 ((i : Int) + (j : Int)) = ((i + j : Nat) : Int) := by
  rw [w64 (by omega) (by omega)]; omega

/-! ### code 1 -/
def nums (l : List Int) : List Int := l.flatMap num
theorem nums_len {l : List Int} (h : ∀ v ∈ l, -4000000000000000 ≤ v ∧ v ≤ 4000000000000000) : (nums l).length ≤ 10 * l.length := by
  induction l with
  | nil => simp [nums]
  | cons v l ih =>
    have h1 := ih (fun x hx => h x (List.mem_cons_of_mem _ hx))
    have h2 := h v (List.mem_cons_self ..)
    have := num_len h2.1 h2.2
    unfold nums at *
    rw [List.flatMap_cons, List.length_append, List.length_cons]
    omega
theorem e_l0 {l : List Int} (hn : l.length ≤ 2000) (hv : ∀ v ∈ l, -4000000000000000 ≤ v ∧ v ≤ 4000000000000000) (d : Nat) : ∀ (i : Nat) (out : List Int), i ≤ l.length → l.length - i ≤ d → out.length + 10 * (l.length - i) ≤ 1000000 →
    Ev (fun k => encode_encode.l0 k out l (l.length : Int) (i : Int)) (out ++ nums (l.drop i)) := by
  induction d with
  | zero =>
    intro i out hi hd ho
    refine Ev.step (fun k => by rw [encode_encode.l0]) (ev_neg (by omega) ?_)
    rw [List.drop_eq_nil_of_le (by omega)]
    simpa [nums] using ev_some out
  | succ d ih =>
    intro i out hi hd ho
    refine Ev.step (fun k => by rw [encode_encode.l0]) ?_
    by_cases h : i < l.length
    · have hb := hv _ (mem_getD h)
      have hl := num_len hb.1 hb.2
      refine ev_pos (by omega) (ev_pos (by omega) (ev_pos (by omega) ?_))
      rw [rdD]
      refine Ev.bind (number_ev hb.1 hb.2 (by omega)) ?_
      rw [w64 (by omega) (by omega)]
      refine ev_eq (ih (i + 1) (out ++ num (l.getD i 0)) (by omega) (by omega) (by rw [List.length_append]; omega)) ?_
      rw [getD_drop_head (d := 0) h, nums, nums, List.flatMap_cons, List.append_assoc]
    · refine ev_neg (by omega) ?_
      rw [List.drop_eq_nil_of_le (by omega)]
      simpa [nums] using ev_some out

/-! ### code 2 -/
/-- How many of a list are alike at its head. -/
def hdI (b : Int) : List Int → Nat
  | [] => 0
  | c :: l => if c = b then hdI b l + 1 else 0
theorem hdI_le (b : Int) (l : List Int) : hdI b l ≤ l.length := by
  induction l with
  | nil => simp [hdI]
  | cons c l ih =>
    unfold hdI
    split
    · simp; exact ih
    · simp
theorem hdI_get {b : Int} {l : List Int} {j : Nat} (h : j < hdI b l) : l[j]? = some b := by
  induction l generalizing j with
  | nil => simp [hdI] at h
  | cons c l ih =>
    unfold hdI at h
    split at h
    · rename_i hc
      cases j with
      | zero => simp [hc]
      | succ j => simpa using ih (by omega)
    · omega
theorem hdI_end {b : Int} {l : List Int} (h : hdI b l < l.length) : ∃ c, l[hdI b l]? = some c ∧ c ≠ b := by
  induction l with
  | nil => simp at h
  | cons c l ih =>
    unfold hdI at h ⊢
    split at h
    · rename_i hc
      rw [if_pos hc]
      simpa using ih (by simpa using h)
    · rename_i hc
      rw [if_neg hc]
      exact ⟨c, by simp, hc⟩
/-- Runs of values, with their counts. -/
def rle : List Int → List Int
  | [] => []
  | b :: l => num b ++ cnt (hdI b l + 1) ++ rle (l.drop (hdI b l))
termination_by l => l.length
decreasing_by simp; omega
theorem rle_cons (b : Int) (l : List Int) : rle (b :: l) = num b ++ cnt (hdI b l + 1) ++ rle (l.drop (hdI b l)) := by rw [rle]
theorem rle_nil : rle [] = [] := by rw [rle]
theorem rle_len (n : Nat) : ∀ l : List Int, l.length ≤ n → l.length ≤ 2000 → (∀ v ∈ l, -4000000000000000 ≤ v ∧ v ≤ 4000000000000000) → (rle l).length ≤ 20 * l.length := by
  induction n with
  | zero =>
    intro l hl _ _
    have : l = [] := List.eq_nil_of_length_eq_zero (by omega)
    subst this
    simp [rle_nil]
  | succ n ih =>
    intro l hl h2 hv
    cases l with
    | nil => simp [rle_nil]
    | cons b l =>
      have h2' : l.length + 1 ≤ 2000 := h2
      have h1 := hdI_le b l
      have := ih (l.drop (hdI b l)) (by simp at hl ⊢; omega) (by simp; omega) (fun v h => hv v (List.mem_cons_of_mem _ (List.mem_of_mem_drop h)))
      have hc := cnt_len10 (n := hdI b l + 1) (by omega)
      have hb := hv b (List.mem_cons_self ..)
      have hnl := num_len hb.1 hb.2
      rw [rle_cons, List.length_append, List.length_append, List.length_cons]
      rw [List.length_drop] at this
      omega
theorem e_l2 (x : List Int) (hx : x.length ≤ 2000) (hv : ∀ v ∈ x, -4000000000000000 ≤ v ∧ v ≤ 4000000000000000) (out : List Int) (i : Nat) (b : Int) (t : List Int) (hd_ : x.drop i = b :: t) (ho : out.length ≤ 1000000) (r : List Int) (e : Nat) :
    ∀ j, hdI b t = j + e → Ev (fun k => encode_encode.l1 k x (out ++ num b ++ cnt (hdI b t + 1)) ((i + (hdI b t + 1) : Nat) : Int)) r →
      Ev (fun k => encode_encode.l2 k x out (i : Int) ((j + 1 : Nat) : Int)) r := by
  have hlen : x.length = i + (t.length + 1) := by
    have := congrArg List.length hd_
    simp at this
    omega
  have hget : ∀ q, x[i + q]? = (b :: t)[q]? := by
    intro q
    rw [← hd_, List.getElem?_drop]
  have hle := hdI_le b t
  have hi0 : x.getD i 0 = b := by
    have := hget 0
    simp at this
    simp [List.getD, this]
  have hbm := hv b (hi0 ▸ mem_getD (show i < x.length by omega))
  have hnl := num_len hbm.1 hbm.2
  have fin : Unit → Ev (fun k => encode_encode.l1 k x (out ++ num b ++ cnt (hdI b t + 1)) ((i + (hdI b t + 1) : Nat) : Int)) r →
      Ev (fun k => (encode_number.f k out (rd x (i : Int))).bind fun t158 => (encode_count.f k t158 (IntKind.u64.wrap ((hdI b t + 1 : Nat) : Int))).bind fun t161 => encode_encode.l1 k x t161 ((i + (hdI b t + 1) : Nat) : Int)) r := by
    intro _ h
    rw [rdD, hi0, u64w, Int.emod_eq_of_lt (by omega) (by omega)]
    have hc : Ev (fun k => encode_count.f k (out ++ num b) ((hdI b t + 1 : Nat) : Int)) (out ++ num b ++ cnt (hdI b t + 1)) := count_ev (by omega) (by rw [List.length_append]; omega)
    have hN : Ev (fun k => encode_number.f k out b) (out ++ num b) := number_ev hbm.1 hbm.2 (by omega)
    exact Ev.bind hN (Ev.bind hc h)
  induction e with
  | zero =>
    intro j hj h
    have hj' : j = hdI b t := by omega
    subst hj'
    have e1 : wrap64 ((i : Int) + ((hdI b t + 1 : Nat) : Int)) = ((i + (hdI b t + 1) : Nat) : Int) := by rw [w64 (by omega) (by omega)]; omega
    refine Ev.step (fun k => by rw [encode_encode.l2]) ?_
    rw [e1]
    by_cases hin : i + (hdI b t + 1) < x.length
    · obtain ⟨c, hc, hne⟩ := hdI_end (b := b) (l := t) (by omega)
      have hnx : x.getD (i + (hdI b t + 1)) 0 = c := by
        have h1 := hget (hdI b t + 1)
        simp only [List.getElem?_cons_succ, hc] at h1
        simp [List.getD, h1]
      refine ev_pos (by omega) (ev_pos (by omega) (ev_pos (by omega) (ev_pos (by omega) (ev_neg ?_ (fin () h)))))
      rw [rdD, rdD, hnx, hi0]
      exact hne
    · exact ev_neg (by omega) (ev_pos (by omega) (ev_pos (by omega) (fin () h)))
  | succ e ih =>
    intro j hj h
    refine Ev.step (fun k => by rw [encode_encode.l2]) ?_
    clear fin hnl hbm hv ho
    have e1 := wadd i (j + 1) (by omega)
    have e2 := wadd (j + 1) 1 (by omega)
    rw [show ((1 : Nat) : Int) = 1 from rfl] at e2
    rw [e1, e2]
    have hnx : x.getD (i + (j + 1)) 0 = b := by
      have h1 := hget (j + 1)
      have h2 := hdI_get (b := b) (l := t) (j := j) (by omega)
      simp only [List.getElem?_cons_succ, h2] at h1
      simp [List.getD, h1]
    refine ev_pos (by omega) (ev_pos (by omega) (ev_pos (by omega) (ev_pos (by omega) (ev_pos ?_ ?_))))
    · rw [rdD, rdD, hnx, hi0]
    · exact ih (j + 1) (by omega) h
theorem e_l1 (x : List Int) (hx : x.length ≤ 2000) (hv : ∀ v ∈ x, -4000000000000000 ≤ v ∧ v ≤ 4000000000000000) (d : Nat) : ∀ (i : Nat) (out : List Int), i ≤ x.length → x.length - i ≤ d → out.length + 20 * (x.length - i) ≤ 1000000 →
    Ev (fun k => encode_encode.l1 k x out (i : Int)) (out ++ rle (x.drop i)) := by
  induction d with
  | zero =>
    intro i out hi hdd ho
    refine Ev.step (fun k => by rw [encode_encode.l1]) (ev_neg (by omega) ?_)
    rw [List.drop_eq_nil_of_le (by omega), rle_nil, List.append_nil]
    exact ev_some out
  | succ d ih =>
    intro i out hi hdd ho
    refine Ev.step (fun k => by rw [encode_encode.l1]) ?_
    by_cases hlt : i < x.length
    · obtain ⟨b, t, hbt⟩ : ∃ b t, x.drop i = b :: t := ⟨_, _, getD_drop_head (d := 0) hlt⟩
      have hlen : x.length = i + (t.length + 1) := by
        have := congrArg List.length hbt
        simp at this
        omega
      have hle := hdI_le b t
      have hbm : b ∈ x := List.mem_of_mem_drop (i := i) (by rw [hbt]; exact List.mem_cons_self ..)
      have hnl := num_len (hv b hbm).1 (hv b hbm).2
      have hcl := cnt_len10 (n := hdI b t + 1) (by omega)
      refine ev_pos (by omega) (e_l2 x hx hv out i b t hbt (by omega) _ (hdI b t) 0 (by omega) ?_)
      refine ev_eq (ih (i + (hdI b t + 1)) (out ++ num b ++ cnt (hdI b t + 1)) (by omega) (by omega) (by rw [List.length_append, List.length_append]; omega)) ?_
      rw [hbt, rle_cons, ← List.drop_drop, hbt, List.drop_succ_cons]
      simp only [List.append_assoc]
    · refine ev_neg (by omega) ?_
      rw [List.drop_eq_nil_of_le (by omega), rle_nil, List.append_nil]
      exact ev_some out

/-! ### code 3 -/
/-- The steps from value to value. -/
def dif : Int → List Int → List Int
  | _, [] => []
  | p, b :: t => cnt (b - p).toNat ++ dif b t
theorem dif_len : ∀ (p : Int) (l : List Int), (p :: l).Pairwise (· < ·) → (∀ v ∈ p :: l, -1000000000000000 ≤ v ∧ v ≤ 1000000000000000) → (dif p l).length ≤ 10 * l.length
  | p, [], _, _ => by simp [dif]
  | p, b :: t, hs, hv => by
    have h1 := dif_len b t hs.tail (fun v h => hv v (List.mem_cons_of_mem _ h))
    have h2 := hv p (List.mem_cons_self ..)
    have h3 := hv b (by simp)
    have := cnt_len10 (n := (b - p).toNat) (by omega)
    rw [dif, List.length_append, List.length_cons]
    omega
/-- What stands behind the count of values. -/
def dict (l : List Int) : List Int := cnt (dst l).length ++ num ((dst l).getD 0 0) ++ dif ((dst l).getD 0 0) ((dst l).drop 1) ++ pb (allbits (pls l) (Lib.bitLen ((dst l).length - 1)))
theorem bitLen64 {x : Nat} (h : x < 18446744073709551616) : Lib.bitLen x ≤ 64 := Lib.bitLen_le x 64 (by omega) (by simpa using h)
theorem pb_len_le {l : List Int} {w : Nat} (hl : l.length ≤ 2000) (hw : w ≤ 64) : (pb (allbits l w)).length ≤ 16000 := by
  rw [pb_len, allbits_len]
  have : l.length * w ≤ 2000 * 64 := Nat.mul_le_mul hl hw
  omega
theorem e_l3 {l : List Int} (hl : l.length ≤ 2000) (hv : ∀ v ∈ l, -1000000000000000 ≤ v ∧ v ≤ 1000000000000000) (d : Nat) : ∀ (i : Nat) (out : List Int), i + 1 ≤ (dst l).length → (dst l).length - (i + 1) ≤ d → out.length + 10 * ((dst l).length - i) ≤ 1000000 →
    Ev (fun k => encode_encode.l3 k out (dst l) (pls l) ((i + 1 : Nat) : Int)) (out ++ dif ((dst l).getD i 0) ((dst l).drop (i + 1)) ++ pb (allbits (pls l) (Lib.bitLen ((dst l).length - 1)))) := by
  have hs := dst_sorted l
  have hdl := dst_len l
  have done : ∀ (i : Nat) (out : List Int), i + 1 = (dst l).length → out.length ≤ 1000000 → Ev (fun k => encode_encode.l3 k out (dst l) (pls l) ((i + 1 : Nat) : Int)) (out ++ dif ((dst l).getD i 0) ((dst l).drop (i + 1)) ++ pb (allbits (pls l) (Lib.bitLen ((dst l).length - 1)))) := by
    intro i out hi ho
    refine Ev.step (fun k => by rw [encode_encode.l3]) (ev_neg (by omega) ?_)
    rw [List.drop_eq_nil_of_le (by omega), dif, List.append_nil, w64 (by omega) (by omega), width_ev (by omega) (by omega)]
    refine Ev.bind (ev_some _) (Ev.bind ?_ (ev_some _))
    rw [show (((dst l).length : Int) - 1).toNat = (dst l).length - 1 by omega]
    exact packed_ev (by omega) (by rw [pls_len]; exact hl) (bitLen64 (by omega)) (fun v h => by have := pls_range v h; omega)
  induction d with
  | zero =>
    intro i out hi hd ho
    exact done i out (by omega) (by omega)
  | succ d ih =>
    intro i out hi hd ho
    by_cases h : i + 1 < (dst l).length
    · have hb1 := hv _ ((hs.2 _).1 (mem_getD h))
      have hb0 := hv _ ((hs.2 _).1 (mem_getD (show i < (dst l).length by omega)))
      have hlt : (dst l).getD i 0 < (dst l).getD (i + 1) 0 := by
        have := List.pairwise_iff_getElem.1 hs.1 i (i + 1) (by omega) h (by omega)
        simpa [List.getD, h, show i < (dst l).length by omega] using this
      have hcl := cnt_len10 (n := ((dst l).getD (i + 1) 0 - (dst l).getD i 0).toNat) (by omega)
      have ei : wrap64 (((i + 1 : Nat) : Int) - 1) = (i : Int) := by rw [w64 (by omega) (by omega)]; omega
      have ec : IntKind.u64.wrap (wrap64 ((dst l).getD (i + 1) 0 - (dst l).getD i 0)) = (((dst l).getD (i + 1) 0 - (dst l).getD i 0).toNat : Int) := by
        rw [w64 (by omega) (by omega), u64w]; omega
      refine Ev.step (fun k => by rw [encode_encode.l3]) ?_
      rw [ei, rdD, rdD, ec, w64 (by omega) (by omega)]
      refine ev_pos (by omega) (ev_pos (by omega) (ev_pos (by omega) (ev_pos (by omega) ?_)))
      refine Ev.bind (count_ev (by omega) (by omega)) ?_
      refine ev_eq (ih (i + 1) (out ++ cnt ((dst l).getD (i + 1) 0 - (dst l).getD i 0).toNat) (by omega) (by omega) (by rw [List.length_append]; omega)) ?_
      rw [getD_drop_head (d := 0) h, dif]
      simp only [List.append_assoc]
    · exact done i out (by omega) (by omega)

/-! ### code 4 -/
theorem minOf_le (l : List Int) (h : l ≠ []) : Lib.minOf l ∈ l ∧ ∀ v ∈ l, Lib.minOf l ≤ v := by
  have key : ∀ (l : List Int) (a : Int), (l.foldl min a = a ∨ l.foldl min a ∈ l) ∧ l.foldl min a ≤ a ∧ ∀ v ∈ l, l.foldl min a ≤ v := by
    intro l
    induction l with
    | nil => intro a; simp
    | cons b l ih =>
      intro a
      obtain ⟨h1, h2, h3⟩ := ih (min a b)
      rw [List.foldl_cons]
      refine ⟨?_, by omega, fun v hv => ?_⟩
      · rcases h1 with h1 | h1
        · rw [h1]
          rcases Int.le_total a b with h | h
          · rw [Int.min_eq_left h]; exact Or.inl rfl
          · rw [Int.min_eq_right h]; exact Or.inr (List.mem_cons_self ..)
        · exact Or.inr (List.mem_cons_of_mem _ h1)
      · rcases List.mem_cons.1 hv with rfl | hv
        · omega
        · exact h3 v hv
  cases l with
  | nil => exact absurd rfl h
  | cons a l =>
    obtain ⟨h1, h2, h3⟩ := key (a :: l) a
    refine ⟨?_, fun v hv => h3 v hv⟩
    unfold Lib.minOf
    rcases h1 with h1 | h1
    · simp only [List.headD_cons]; rw [h1]; exact List.mem_cons_self ..
    · exact h1
theorem maxOf_ge (l : List Int) (h : l ≠ []) : Lib.maxOf l ∈ l ∧ ∀ v ∈ l, v ≤ Lib.maxOf l := by
  have key : ∀ (l : List Int) (a : Int), (l.foldl max a = a ∨ l.foldl max a ∈ l) ∧ a ≤ l.foldl max a ∧ ∀ v ∈ l, v ≤ l.foldl max a := by
    intro l
    induction l with
    | nil => intro a; simp
    | cons b l ih =>
      intro a
      obtain ⟨h1, h2, h3⟩ := ih (max a b)
      rw [List.foldl_cons]
      refine ⟨?_, by omega, fun v hv => ?_⟩
      · rcases h1 with h1 | h1
        · rw [h1]
          rcases Int.le_total a b with h | h
          · rw [Int.max_eq_right h]; exact Or.inr (List.mem_cons_self ..)
          · rw [Int.max_eq_left h]; exact Or.inl rfl
        · exact Or.inr (List.mem_cons_of_mem _ h1)
      · rcases List.mem_cons.1 hv with rfl | hv
        · omega
        · exact h3 v hv
  cases l with
  | nil => exact absurd rfl h
  | cons a l =>
    obtain ⟨h1, h2, h3⟩ := key (a :: l) a
    refine ⟨?_, fun v hv => h3 v hv⟩
    unfold Lib.maxOf
    rcases h1 with h1 | h1
    · simp only [List.headD_cons]; rw [h1]; exact List.mem_cons_self ..
    · exact h1
/-- The width of the steps above the least. -/
def fw (l : List Int) : Nat := Lib.bitLen (Lib.maxOf l - Lib.minOf l).toNat
/-- The steps above the least. -/
def fs (l : List Int) : List Int := l.map fun v => v - Lib.minOf l
def frame (l : List Int) : List Int := num (Lib.minOf l) ++ [(fw l : Int)] ++ pb (allbits (fs l) (fw l))
theorem fw_le {l : List Int} (h : Okv l) (hn : l ≠ []) : fw l ≤ 51 := by
  have h1 := h.2 _ (maxOf_ge l hn).1
  have h2 := h.2 _ (minOf_le l hn).1
  exact Lib.bitLen_le _ 51 (by omega) (by omega)
theorem fs_range {l : List Int} (h : Okv l) (hn : l ≠ []) : ∀ v ∈ fs l, 0 ≤ v ∧ v ≤ Lib.maxOf l - Lib.minOf l := by
  intro v hv
  obtain ⟨u, hu, rfl⟩ := List.mem_map.1 hv
  have h1 := (minOf_le l hn).2 u hu
  have h2 := (maxOf_ge l hn).2 u hu
  omega
theorem e_l4 {l : List Int} (h : Okv l) (hn : l ≠ []) {base : List Int} (hb : base.length ≤ 1000000) (d : Nat) : ∀ i : Nat, i ≤ l.length → l.length - i ≤ d →
    Ev (fun k => encode_encode.l4 k base (Lib.minOf l) (fw l : Int) ((l.take i).map fun v => v - Lib.minOf l) l (l.length : Int) (i : Int)) (base ++ pb (allbits (fs l) (fw l))) := by
  have h1 := h.2 _ (maxOf_ge l hn).1
  have h2 := h.2 _ (minOf_le l hn).1
  have hl := h.1
  have done : Ev (fun k => (encode_packed.f k base (fs l) (fw l : Int)).bind fun t207 => some t207) (base ++ pb (allbits (fs l) (fw l))) :=
    Ev.bind (packed_ev (by omega) (by simpa [fs] using hl) (by have := fw_le h hn; omega) (fun v hv => by have := fs_range h hn v hv; omega)) (ev_some _)
  induction d with
  | zero =>
    intro i hi hd
    refine Ev.step (fun k => by rw [encode_encode.l4]) (ev_neg (by omega) ?_)
    rw [List.take_of_length_le (by omega)]
    exact done
  | succ d ih =>
    intro i hi hd
    refine Ev.step (fun k => by rw [encode_encode.l4]) ?_
    by_cases hlt : i < l.length
    · have hb := h.2 _ (mem_getD hlt)
      refine ev_pos (by omega) (ev_pos (by omega) (ev_pos (by omega) (ev_pos (by simp; omega) ?_)))
      rw [rdD, w64 (by omega) (by omega), w64 (by omega) (by omega)]
      have := ih (i + 1) (by omega) (by omega)
      rw [List.take_add_one, List.map_append] at this
      simpa [List.getD, hlt] using this
    · refine ev_neg (by omega) ?_
      rw [List.take_of_length_le (by omega)]
      exact done

/-! ### code 5 -/
/-- The steps from value to value, either way. -/
def dlt : Int → List Int → List Int
  | _, [] => []
  | p, b :: t => num (b - p) ++ dlt b t
theorem dlt_len : ∀ (p : Int) (l : List Int), (∀ v ∈ p :: l, -1000000000000000 ≤ v ∧ v ≤ 1000000000000000) → (dlt p l).length ≤ 10 * l.length
  | p, [], _ => by simp [dlt]
  | p, b :: t, hv => by
    have h1 := dlt_len b t (fun v h => hv v (List.mem_cons_of_mem _ h))
    have h2 := hv p (List.mem_cons_self ..)
    have h3 := hv b (by simp)
    have := num_len (v := b - p) (by omega) (by omega)
    rw [dlt, List.length_append, List.length_cons]
    omega
theorem e_l5 {l : List Int} (h : Okv l) (d : Nat) : ∀ (i : Nat) (p : Int) (out : List Int), i ≤ l.length → l.length - i ≤ d → (-1000000000000000 ≤ p ∧ p ≤ 1000000000000000) → out.length + 10 * (l.length - i) ≤ 1000000 →
    Ev (fun k => encode_encode.l5 k out p l (l.length : Int) (i : Int)) (out ++ dlt p (l.drop i)) := by
  have hn := h.1
  induction d with
  | zero =>
    intro i p out hi hd hp ho
    refine Ev.step (fun k => by rw [encode_encode.l5]) (ev_neg (by omega) ?_)
    rw [List.drop_eq_nil_of_le (by omega)]
    simpa [dlt] using ev_some out
  | succ d ih =>
    intro i p out hi hd hp ho
    refine Ev.step (fun k => by rw [encode_encode.l5]) ?_
    by_cases hlt : i < l.length
    · have hb := h.2 _ (mem_getD hlt)
      have hl := num_len (v := l.getD i 0 - p) (by omega) (by omega)
      refine ev_pos (by omega) (ev_pos (by omega) (ev_pos (by omega) ?_))
      rw [rdD, w64 (by omega) (by omega), w64 (by omega) (by omega)]
      refine Ev.bind (number_ev (by omega) (by omega) (by omega)) ?_
      refine ev_eq (ih (i + 1) (l.getD i 0) (out ++ num (l.getD i 0 - p)) (by omega) (by omega) hb (by rw [List.length_append]; omega)) ?_
      rw [getD_drop_head (d := 0) hlt, dlt, List.append_assoc]
    · refine ev_neg (by omega) ?_
      rw [List.drop_eq_nil_of_le (by omega)]
      simpa [dlt] using ev_some out

/-! ### all codes -/
/-- What stands behind the count. -/
def body (c : Nat) (l : List Int) : List Int := if c = 1 then nums l else if c = 2 then rle l else if c = 3 then dict l else if c = 4 then frame l else dlt 0 l
/-- What is encoded. -/
def enc (c : Nat) (l : List Int) : List Int := (c : Int) :: cnt l.length ++ if l = [] then [] else body c l
theorem encode_ev {c : Nat} (h1 : 1 ≤ c) (h5 : c ≤ 5) {l : List Int} (h : Okv l) : Ev (fun k => encode_encode.f k (c : Int) l) (enc c l) := by
  have hn := h.1
  have hcl := cnt_len10 (n := l.length) (by omega)
  have h4 : ∀ v ∈ l, -4000000000000000 ≤ v ∧ v ≤ 4000000000000000 := fun v hv => by have := h.2 v hv; omega
  unfold encode_encode.f
  rw [Int.emod_eq_of_lt (show 0 ≤ (c : Int) by omega) (by omega), u64w, Int.emod_eq_of_lt (show 0 ≤ (l.length : Int) by omega) (by omega)]
  refine Ev.bind (count_ev (by omega) (by simp)) ?_
  unfold enc
  by_cases hz : l = []
  · rw [if_pos hz]
    exact ev_pos (by rw [hz]; rfl) (ev_eq (ev_some _) (by simp))
  · rw [if_neg hz]
    have hp := List.length_pos_iff.2 hz
    refine ev_neg (by omega) ?_
    have hout : ([(c : Int)] ++ cnt l.length).length ≤ 11 := by rw [List.length_append, List.length_singleton]; omega
    unfold body
    by_cases e1 : c = 1
    · rw [if_pos e1]
      exact ev_pos (by omega) (e_l0 hn h4 _ 0 _ (by omega) (Nat.le_refl _) (by omega))
    rw [if_neg e1]
    refine ev_neg (by omega) ?_
    by_cases e2 : c = 2
    · rw [if_pos e2]
      exact ev_pos (by omega) (e_l1 l hn h4 _ 0 _ (by omega) (Nat.le_refl _) (by omega))
    rw [if_neg e2]
    refine ev_neg (by omega) ?_
    by_cases e3 : c = 3
    · rw [if_pos e3]
      have hdl := dst_len l
      have hdp := dst_ne hz
      have hm := h.2 _ (((dst_sorted l).2 _).1 (mem_getD hdp))
      have hc2 := cnt_len10 (n := (dst l).length) (by omega)
      have hnl := num_len (v := (dst l).getD 0 0) (by omega) (by omega)
      refine ev_pos (by omega) (Ev.bind (distinct_ev hn) ?_)
      dsimp only
      rw [u64w, Int.emod_eq_of_lt (show 0 ≤ ((dst l).length : Int) by omega) (by omega)]
      refine Ev.bind (count_ev (by omega) (by omega)) (ev_pos (by omega) ?_)
      rw [show (0 : Int) = ((0 : Nat) : Int) from rfl, rdD]
      refine Ev.bind (number_ev (by omega) (by omega) (by rw [List.length_append]; omega)) ?_
      refine ev_eq (e_l3 hn h.2 _ 0 _ (by omega) (Nat.le_refl _) (by rw [List.length_append, List.length_append]; omega)) ?_
      unfold dict
      simp only [List.append_assoc, List.cons_append, List.nil_append]
    rw [if_neg e3]
    refine ev_neg (by omega) ?_
    by_cases e4 : c = 4
    · rw [if_pos e4]
      have hx := h.2 _ (maxOf_ge l hz).1
      have hm := h.2 _ (minOf_le l hz).1
      have hle := (minOf_le l hz).2 _ (maxOf_ge l hz).1
      have hfw := fw_le h hz
      have hnl := num_len (v := Lib.minOf l) (by omega) (by omega)
      unfold slices_Min_int_int.f slices_Max_int_int.f
      rw [if_neg hz, if_neg hz]
      refine ev_pos (by omega) (Ev.bind (ev_some _) (Ev.bind (ev_some _) (Ev.bind (ev_some _) ?_)))
      rw [w64 (by omega) (by omega), width_ev (by omega) (by omega)]
      refine Ev.bind (ev_some _) (Ev.bind (number_ev (by omega) (by omega) (by omega)) (ev_pos (by rw [List.length_append]; omega) ?_))
      have ew : ((Lib.bitLen (Lib.maxOf l - Lib.minOf l).toNat : Nat) : Int) % 256 = (fw l : Int) := by
        have : Lib.bitLen (Lib.maxOf l - Lib.minOf l).toNat = fw l := rfl
        rw [this]; omega
      rw [ew]
      refine ev_eq (e_l4 h hz (base := [(c : Int)] ++ cnt l.length ++ num (Lib.minOf l) ++ [(fw l : Int)]) (by simp only [List.length_append, List.length_singleton]; omega) _ 0 (by omega) (Nat.le_refl _)) ?_
      unfold frame
      simp only [List.append_assoc, List.cons_append, List.nil_append]
    rw [if_neg e4]
    exact ev_neg (by omega) (e_l5 h _ 0 0 _ (by omega) (Nat.le_refl _) (by omega) (by omega))
theorem enc_len {c : Nat} {l : List Int} (h : Okv l) : (enc c l).length ≤ 100000 := by
  have hn := h.1
  have hcl := cnt_len10 (n := l.length) (by omega)
  have h4 : ∀ v ∈ l, -4000000000000000 ≤ v ∧ v ≤ 4000000000000000 := fun v hv => by have := h.2 v hv; omega
  unfold enc
  rw [List.length_append, List.length_cons]
  split
  · simp; omega
  · rename_i hz
    unfold body
    split
    · have := nums_len h4; omega
    split
    · have := rle_len _ l (Nat.le_refl _) hn h4; omega
    split
    · have hdl := dst_len l
      have hdp := dst_ne hz
      have hs := dst_sorted l
      have hm := h.2 _ ((hs.2 _).1 (mem_getD hdp))
      have hc2 := cnt_len10 (n := (dst l).length) (by omega)
      have hnl := num_len (v := (dst l).getD 0 0) (by omega) (by omega)
      have hcons : (dst l).getD 0 0 :: (dst l).drop 1 = dst l := by
        have := getD_drop_head (d := 0) hdp
        rw [List.drop_zero] at this
        exact this.symm
      have hdf := dif_len ((dst l).getD 0 0) ((dst l).drop 1) (by rw [hcons]; exact hs.1) (by rw [hcons]; exact fun v hv => h.2 v ((hs.2 v).1 hv))
      have hpb := pb_len_le (l := pls l) (w := Lib.bitLen ((dst l).length - 1)) (by rw [pls_len]; exact hn) (bitLen64 (by omega))
      unfold dict
      rw [List.length_drop] at hdf
      simp only [List.length_append]
      omega
    split
    · have hm := h.2 _ (minOf_le l hz).1
      have hnl := num_len (v := Lib.minOf l) (by omega) (by omega)
      have hfw := fw_le h hz
      have hpb := pb_len_le (l := fs l) (w := fw l) (by simpa [fs] using hn) (by omega)
      unfold frame
      simp only [List.length_append, List.length_singleton]
      omega
    · have := dlt_len 0 l (fun v hv => by
        rcases List.mem_cons.1 hv with rfl | hv
        · omega
        · exact h.2 v hv)
      omega
end Go.Proofs.Ythhdihnaicggiaa.C
