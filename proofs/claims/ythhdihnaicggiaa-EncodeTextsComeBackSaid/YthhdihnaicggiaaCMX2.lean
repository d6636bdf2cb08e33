/- Texts, in plain Lean: what is written of them, and that it is read. No conditions beyond those in each theorem. -/
import Derived.Test.YthhdihnaicggiaaCMX1
namespace Go.Proofs.Ythhdihnaicggiaa.C
open Go.RowKit Go.Proofs.YthhdihnaicggiaaW.PrintWords Go.Proofs.YthhdihnaicggiaaW.PrintLast Go.Proofs.YthhdihnaicggiaaW.PrintMore
set_option linter.unusedVariables false
set_option linter.unusedSimpArgs false

/-! ### what is written -/
def txs (l : List ByteArray) : List Int := l.flatMap fun s => cnt s.size ++ bytesOf s
def preT : List UInt8 → List (List UInt8) → List Int
  | _, [] => []
  | b, s :: t => cnt (comL b s) ++ cnt (s.length - comL b s) ++ n8 (s.drop (comL b s)) ++ preT s t
def dicT (l : List ByteArray) : List Int := cnt (dsT l).length ++ preT [] (dsT l) ++ pb (allbits (plsT l) (Lib.bitLen ((dsT l).length - 1)))
def encT (c : Nat) (l : List ByteArray) : List Int := (c : Int) :: cnt l.length ++ (if l = [] then [] else if c = 1 then txs l else dicT l)
theorem cl10 {n : Nat} (h : n ≤ 100000) : (cnt n).length ≤ 10 := cnt_len10 (by omega)
theorem u64n {n : Nat} (h : n ≤ 100000) : IntKind.u64.wrap (n : Int) = (n : Int) := by rw [u64w]; omega
theorem t_l0 {l : List ByteArray} (hn : l.length ≤ 2000) (hs : ∀ s ∈ l, s.size ≤ 200) (d : Nat) : ∀ (i : Nat) (out : List Int), i ≤ l.length → l.length - i ≤ d → out.length + 210 * (l.length - i) ≤ 1000000 →
    Ev (fun k => encode_encodeTexts.l0 k out l (l.length : Int) (i : Int)) (out ++ txs (l.drop i)) := by
  induction d with
  | zero =>
    intro i out hi hd ho
    refine Ev.step (fun k => by rw [encode_encodeTexts.l0]) (ev_neg (by omega) ?_)
    rw [List.drop_eq_nil_of_le (by omega)]
    exact ev_eq (ev_some _) (by simp [txs])
  | succ d ih =>
    intro i out hi hd ho
    refine Ev.step (fun k => by rw [encode_encodeTexts.l0]) ?_
    by_cases hlt : i < l.length
    · have hm : l.getD i ByteArray.empty ∈ l := by
        simp only [List.getD, List.getElem?_eq_getElem hlt, Option.getD_some]
        exact List.getElem_mem hlt
      have hz := hs _ hm
      have hc := cl10 (n := (l.getD i ByteArray.empty).size) (by omega)
      have hb := bytesOf_length (l.getD i ByteArray.empty)
      rw [rdTe, u64n (n := (l.getD i ByteArray.empty).size) (by omega)]
      refine ev_pos (by omega) (ev_pos (by omega) (ev_pos (by omega) (Ev.bind (count_ev (n := (l.getD i ByteArray.empty).size) (by omega) (by omega)) ?_)))
      refine ev_pos (by rw [List.length_append]; omega) ?_
      rw [w64 (by omega) (by omega)]
      have := ih (i + 1) (out ++ cnt (l.getD i ByteArray.empty).size ++ bytesOf (l.getD i ByteArray.empty)) (by omega) (by omega) (by rw [List.length_append, List.length_append]; omega)
      refine ev_eq this ?_
      rw [getD_drop_head (d := ByteArray.empty) hlt]
      simp [txs, List.append_assoc]
    · refine ev_neg (by omega) ?_
      rw [List.drop_eq_nil_of_le (by omega)]
      exact ev_eq (ev_some _) (by simp [txs])
theorem preT_len : ∀ (b : List UInt8) (D : List (List UInt8)), (∀ x ∈ D, x.length ≤ 200) → (preT b D).length ≤ 220 * D.length
  | b, [], h => by simp [preT]
  | b, s :: t, h => by
    have hs := h s (List.mem_cons_self ..)
    have hc := comL_le b s
    have h1 := cl10 (n := comL b s) (by omega)
    have h2 := cl10 (n := s.length - comL b s) (by omega)
    have ih := preT_len s t (fun x hx => h x (List.mem_cons_of_mem _ hx))
    rw [preT]
    simp only [List.length_append, n8_len, List.length_drop, List.length_cons]
    omega
theorem t_l1 {l : List ByteArray} {D : List (List UInt8)} (hD : D.length ≤ 2000) (hs : ∀ x ∈ D, x.length ≤ 200) (r : List Int) (d : Nat) : ∀ (i : Nat) (out : List Int) (b : List UInt8), b.length ≤ 200 → i ≤ D.length → D.length - i ≤ d → out.length + 220 * (D.length - i) ≤ 1000000 →
    Ev (fun k => encode_encodeTexts.l2 k (out ++ preT b (D.drop i)) (D.map mk8) [] l (l.length : Int) 0) r →
    Ev (fun k => encode_encodeTexts.l1 k l out (D.map mk8) (mk8 b) (D.length : Int) (i : Int)) r := by
  have hlen : (D.map mk8).length = D.length := by simp
  induction d with
  | zero =>
    intro i out b hb hi hd ho h
    refine Ev.step (fun k => by rw [encode_encodeTexts.l1]) (ev_neg (by omega) ?_)
    rw [List.drop_eq_nil_of_le (by omega)] at h
    simpa [preT] using h
  | succ d ih =>
    intro i out b hb hi hd ho h
    refine Ev.step (fun k => by rw [encode_encodeTexts.l1]) ?_
    by_cases hlt : i < D.length
    · have hm : D.getD i [] ∈ D := by
        simp only [List.getD, List.getElem?_eq_getElem hlt, Option.getD_some]
        exact List.getElem_mem hlt
      have hz := hs _ hm
      rw [getD_drop_head (d := ([] : List UInt8)) hlt, preT] at h
      rw [rdTm]
      generalize D.getD i [] = s at hz h
      have hc := comL_le b s
      have h1 := cl10 (n := comL b s) (by omega)
      have h2 := cl10 (n := s.length - comL b s) (by omega)
      have hcom := com_ev (a := mk8 b) (b := mk8 s) (by rw [mk8_size]; omega)
      rw [mk8_data, mk8_data] at hcom
      refine ev_pos (by omega) (ev_pos (by omega) (ev_pos (by omega) (Ev.bind hcom ?_)))
      rw [mk8_size, u64n (n := comL b s) (by omega), w64 (n := (s.length : Int) - (comL b s : Int)) (by omega) (by omega), show (s.length : Int) - (comL b s : Int) = ((s.length - comL b s : Nat) : Int) by omega, u64n (n := s.length - comL b s) (by omega)]
      refine Ev.bind (count_ev (n := comL b s) (by omega) (by omega)) (Ev.bind (count_ev (n := s.length - comL b s) (by omega) (by rw [List.length_append]; omega)) ?_)
      rw [Int.toNat_natCast, ext_drop s _ hc.2, mk8_size, List.length_drop, n8_of, mk8_data, w64 (by omega) (by omega)]
      refine ev_pos (by omega) (ev_pos (by omega) (ev_pos (by rw [List.length_append, List.length_append]; omega) ?_))
      refine ih (i + 1) (out ++ cnt (comL b s) ++ cnt (s.length - comL b s) ++ n8 (s.drop (comL b s))) s hz (by omega) (by omega) (by simp only [List.length_append, n8_len, List.length_drop]; omega) ?_
      simpa [List.append_assoc] using h
    · refine ev_neg (by omega) ?_
      rw [List.drop_eq_nil_of_le (by omega)] at h
      simpa [preT] using h
theorem t_l2 {l : List ByteArray} (hn : l.length ≤ 2000) (hne : l ≠ []) {out : List Int} (ho : out.length ≤ 1000000) :
    Ev (fun k => encode_encodeTexts.l2 k out ((dsT l).map mk8) [] l (l.length : Int) 0) (out ++ pb (allbits (plsT l) (Lib.bitLen ((dsT l).length - 1)))) := by
  have hd := dsT_len l
  have hp := dsT_ne hne
  have hs := dsT_sorted l
  have hlen : ((dsT l).map mk8).length = (dsT l).length := by simp
  have hfin : ∀ i : Nat, ¬ i < l.length → Ev (fun k => encode_encodeTexts.l2 k out ((dsT l).map mk8) (plsT l) l (l.length : Int) (i : Int)) (out ++ pb (allbits (plsT l) (Lib.bitLen ((dsT l).length - 1)))) := by
    intro i hi
    refine Ev.step (fun k => by rw [encode_encodeTexts.l2]) (ev_neg (by omega) ?_)
    rw [hlen, w64 (n := ((dsT l).length : Int) - 1) (by omega) (by omega), width_ev (by omega) (by omega), show (((dsT l).length : Int) - 1).toNat = (dsT l).length - 1 by omega]
    have hw := bitLen64 (x := (dsT l).length - 1) (by omega)
    exact Ev.bind (ev_some _) (Ev.bind (packed_ev (base := out) (l := plsT l) (by omega) (by rw [plsT_len]; exact hn) hw (fun v hv => by have := plsT_range v hv; omega)) (ev_some _))
  have key : ∀ n (i : Nat), i ≤ l.length → l.length - i ≤ n → Ev (fun k => encode_encodeTexts.l2 k out ((dsT l).map mk8) ((l.take i).map fun s => (plT (dsT l) s.data.toList : Int)) l (l.length : Int) (i : Int)) (out ++ pb (allbits (plsT l) (Lib.bitLen ((dsT l).length - 1)))) := by
    intro n
    induction n with
    | zero =>
      intro i hi hn'
      rw [List.take_of_length_le (by omega)]
      exact hfin i (by omega)
    | succ n ih =>
      intro i hi hn'
      by_cases hlt : i < l.length
      · have hm : l.getD i ByteArray.empty ∈ l := by
          simp only [List.getD, List.getElem?_eq_getElem hlt, Option.getD_some]
          exact List.getElem_mem hlt
        refine Ev.step (fun k => by rw [encode_encodeTexts.l2]) (ev_pos (by omega) (ev_pos (by omega) (ev_pos (by omega) ?_)))
        rw [rdTe]
        refine Ev.bind (searchT hs.1 (by omega) ((hs.2 _).2 (List.mem_map.2 ⟨_, hm, rfl⟩))) (ev_pos (by simp; omega) ?_)
        rw [w64 (by omega) (by omega)]
        have := ih (i + 1) (by omega) (by omega)
        rw [List.take_add_one, List.map_append] at this
        simpa [List.getD, hlt] using this
      · rw [List.take_of_length_le (by omega)]
        exact hfin i hlt
  exact key _ 0 (by omega) (Nat.le_refl _)
theorem encodeT_ev {c : Nat} (hc : c = 1 ∨ c = 3) {l : List ByteArray} (h : OkT l) : Ev (fun k => encode_encodeTexts.f k (c : Int) l) (encT c l) := by
  have hn := h.1
  have hsz : ∀ s ∈ l, s.size ≤ 200 := fun s hs => cv_size (h.2 s hs)
  have hcl := cl10 (n := l.length) (by omega)
  unfold encode_encodeTexts.f
  rw [show (c : Int) % 256 = (c : Int) by omega, u64n (n := l.length) (by omega)]
  refine Ev.bind (count_ev (n := l.length) (l := [(c : Int)]) (by omega) (by simp)) ?_
  by_cases hz : l = []
  · refine ev_pos (by rw [hz]; rfl) (ev_eq (ev_some _) ?_)
    rw [hz]; simp [encT]
  · have hp := List.length_pos_iff.2 hz
    refine ev_neg (by omega) ?_
    rcases hc with rfl | rfl
    · refine ev_pos rfl ?_
      have := t_l0 hn hsz _ 0 ([((1 : Nat) : Int)] ++ cnt l.length) (by omega) (Nat.le_refl _) (by simp; omega)
      refine ev_eq this ?_
      simp [encT, hz]
    · refine ev_neg (by omega) ?_
      have hd := dsT_len l
      have hD := dsT_size h
      have hdl := cl10 (n := (dsT l).length) (by omega)
      unfold slices_Clone_string_string.f slices_Sort_string_string.f slices_Compact_string_string.f
      rw [if_pos (show l.length * 16 ≤ 140737488355328 by omega)]
      refine Ev.bind (ev_some _) ?_
      rw [if_pos (show l.length < 4611686018427387904 by omega)]
      refine Ev.bind (ev_some _) (Ev.bind (ev_some _) ?_)
      have e : (List.map (fun l => (⟨l.toArray⟩ : ByteArray)) (Lib.compact (List.map (fun s => s.data.toList) (List.map (fun l => (⟨l.toArray⟩ : ByteArray)) ((List.map (fun s => s.data.toList) l).mergeSort fun x y => decide (x ≤ y)))))) = (dsT l).map mk8 := by
        unfold dsT l8
        rw [List.map_map]
        have hid : ((fun s : ByteArray => s.data.toList) ∘ fun l => (⟨l.toArray⟩ : ByteArray)) = id := by
          funext x
          simp
        rw [hid, List.map_id]
        rfl
      rw [e]
      have hlen : ((dsT l).map mk8).length = (dsT l).length := by simp
      rw [hlen, u64n (n := (dsT l).length) (by omega)]
      refine Ev.bind (count_ev (n := (dsT l).length) (by omega) (by simp; omega)) ?_
      have hpl := preT_len [] (dsT l) hD
      have := t_l1 (l := l) (D := dsT l) (by omega) hD (encT 3 l) _ 0 ([((3 : Nat) : Int)] ++ cnt l.length ++ cnt (dsT l).length) [] (by simp) (by omega) (Nat.le_refl _) (by simp; omega) ?_
      · exact this
      · refine ev_eq (t_l2 hn hz (by simp; omega)) ?_
        simp [encT, hz, dicT, List.append_assoc]
theorem txs_len : ∀ (l : List ByteArray), (∀ s ∈ l, s.size ≤ 200) → (txs l).length ≤ 210 * l.length
  | [], h => by simp [txs]
  | s :: t, h => by
    have hs := h s (List.mem_cons_self ..)
    have hc := cl10 (n := s.size) (by omega)
    have ih := txs_len t (fun x hx => h x (List.mem_cons_of_mem _ hx))
    have e : txs (s :: t) = cnt s.size ++ bytesOf s ++ txs t := by simp [txs, List.append_assoc]
    rw [e, List.length_append, List.length_append, bytesOf_length, List.length_cons]
    omega
theorem bitLen11' {n : Nat} (h : n ≤ 2000) : Lib.bitLen (n - 1) ≤ 11 := Lib.bitLen_le _ 11 (by omega) (by omega)
theorem bitLen_lt' (x : Nat) (h : x < 18446744073709551616) : x < 2 ^ Lib.bitLen x := by
  by_cases h0 : x = 0
  · subst h0; exact Nat.pow_pos (by omega)
  · exact (Lib.bitLenAux_bounds 64 x (by omega) h0).2.2
theorem encT_len {c : Nat} {l : List ByteArray} (h : OkT l) : (encT c l).length ≤ 480000 := by
  have hn := h.1
  have hcl := cl10 (n := l.length) (by omega)
  have hsz : ∀ s ∈ l, s.size ≤ 200 := fun s hs => cv_size (h.2 s hs)
  have hd := dsT_len l
  have hdl := cl10 (n := (dsT l).length) (by omega)
  have hpl := preT_len [] (dsT l) (dsT_size h)
  have h1 := txs_len l hsz
  have hb := bitLen11' (n := (dsT l).length) (by omega)
  have hm : l.length * Lib.bitLen ((dsT l).length - 1) ≤ 2000 * 11 := Nat.mul_le_mul hn hb
  have h2 : (dicT l).length ≤ 470000 := by
    unfold dicT
    simp only [List.length_append, pb_len, allbits_len, plsT_len]
    omega
  unfold encT
  rw [List.length_append, List.length_cons]
  split
  · simp; omega
  · split <;> omega
theorem Byt.app {a b : List Int} (ha : Byt a) (hb : Byt b) : Byt (a ++ b) := fun x hx => (List.mem_append.1 hx).elim (ha x) (hb x)
theorem preT_byt : ∀ (b : List UInt8) (D : List (List UInt8)), Byt (preT b D)
  | b, [] => by intro x hx; simp [preT] at hx
  | b, s :: t => by rw [preT]; exact Byt.app (Byt.app (Byt.app (cnt_byte _) (cnt_byte _)) (n8_byt _)) (preT_byt s t)
theorem txs_byt (l : List ByteArray) : Byt (txs l) := fun x hx => by
  obtain ⟨s, _, h⟩ := List.mem_flatMap.1 hx
  exact Byt.app (cnt_byte _) (n8_byt _) x h
theorem dicT_byt (l : List ByteArray) : Byt (dicT l) := Byt.app (Byt.app (cnt_byte _) (preT_byt _ _)) (pb_byte (allbits_bits _ _))
theorem bodT_byt (c : Nat) (l : List ByteArray) : Byt (if l = [] then [] else if c = 1 then txs l else dicT l) := by
  split
  · intro x hx; simp at hx
  · split
    · exact txs_byt l
    · exact dicT_byt l
theorem encT_byt {c : Nat} (hc : c ≤ 255) (l : List ByteArray) : Byt (encT c l) := by
  unfold encT
  refine Byt.app ?_ (bodT_byt c l)
  intro x hx
  rcases List.mem_cons.1 hx with rfl | hx
  · omega
  · exact cnt_byte _ x hx

/-! ### what is read -/
abbrev AnT := List ByteArray × List Int × Bool
theorem textF (s : List Int) (bad : Bool) (n : Nat) : encode_reader_text.f s bad (n : Int) = some (if n > s.length then (mk8 [], s, true) else (strOfNums (s.take n), s.drop n, bad)) := by
  unfold encode_reader_text.f
  by_cases h : n > s.length
  · rw [if_pos (by omega), if_pos h]
    rfl
  · rw [if_neg (by omega), if_pos (by omega), if_pos (by omega), if_neg h, Int.toNat_natCast]
theorem strN_size (s : List Int) : (strOfNums s).size = s.length := strOfNums_size s
/-- The texts of a dictionary: an answer, whatever the bytes. -/
theorem pick_l1 {n : Int} {D : List ByteArray} (s : List Int) (bad : Bool) (hl : (D.length : Int) = n) (u : List Int) (hu : u.length ≤ 2000) (h0 : ∀ q ∈ u, 0 ≤ q) (d : Nat) : ∀ (i : Nat) (out : List ByteArray), out.length ≤ 4000 - (u.length - i) → i ≤ u.length → u.length - i ≤ d →
    (∃ r : AnT, Ev (fun k => encode_reader_dictTexts.l1 k n D out u (u.length : Int) (i : Int) s bad) r) ∧
    ((∀ q ∈ u, q < n) → Ev (fun k => encode_reader_dictTexts.l1 k n D out u (u.length : Int) (i : Int) s bad) (out ++ (u.drop i).map (rdOf ByteArray.empty D), s, bad)) := by
  have fin : ∀ (i : Nat) (out : List ByteArray), ¬ i < u.length → Ev (fun k => encode_reader_dictTexts.l1 k n D out u (u.length : Int) (i : Int) s bad) (out ++ (u.drop i).map (rdOf ByteArray.empty D), s, bad) := by
    intro i out h
    refine Ev.step (fun k => by rw [encode_reader_dictTexts.l1]) (ev_neg (by omega) ?_)
    rw [List.drop_eq_nil_of_le (by omega)]
    exact ev_eq (ev_some _) (by simp)
  induction d with
  | zero => intro i out ho hi hd; exact ⟨⟨_, fin i out (by omega)⟩, fun _ => fin i out (by omega)⟩
  | succ d ih =>
    intro i out ho hi hd
    by_cases hlt : i < u.length
    · have hm := mem_getD hlt
      have hq0 := h0 _ hm
      obtain ⟨⟨r, hr⟩, h2⟩ := ih (i + 1) (out ++ [rdOf ByteArray.empty D (u.getD i 0)]) (by simp; omega) (by omega) (by omega)
      have head : ∀ r : AnT, u.getD i 0 < n → Ev (fun k => encode_reader_dictTexts.l1 k n D (out ++ [rdOf ByteArray.empty D (u.getD i 0)]) u (u.length : Int) ((i + 1 : Nat) : Int) s bad) r → Ev (fun k => encode_reader_dictTexts.l1 k n D out u (u.length : Int) (i : Int) s bad) r := by
        intro r hq h
        refine Ev.step (fun k => by rw [encode_reader_dictTexts.l1]) ?_
        rw [rdD, w64 (n := (i : Int) + 1) (by omega) (by omega)]
        exact ev_pos (by omega) (ev_pos (by omega) (ev_pos (by omega) (ev_neg (by omega) (ev_pos (by omega) (ev_pos (by omega) (ev_pos (by omega) h))))))
      constructor
      · by_cases hq : u.getD i 0 < n
        · exact ⟨r, head r hq hr⟩
        · refine ⟨([], s, true), Ev.step (fun k => by rw [encode_reader_dictTexts.l1]) ?_⟩
          rw [rdD]
          exact ev_pos (by omega) (ev_pos (by omega) (ev_pos (by omega) (ev_pos (by omega) (ev_some _))))
      · intro hall
        have := head _ (hall _ hm) (h2 hall)
        rw [getD_drop_head (d := 0) hlt, List.map_cons]
        rw [List.append_assoc] at this
        exact this
    · exact ⟨⟨_, fin i out hlt⟩, fun _ => fin i out hlt⟩
theorem j2_bad (many n : Int) (D : List ByteArray) (s : List Int) (bad : Bool) : Ev (fun k => encode_reader_dictTexts.j2 k many n D true s bad) ([], s, true) :=
  Ev.step (fun k => by rw [encode_reader_dictTexts.j2]) (ev_pos rfl (ev_some _))
theorem j2_ok {many n : Nat} (hm : many ≤ 2000) (h1 : 1 ≤ n) (hn : n ≤ 2000) {D : List ByteArray} {s : List Int} (hs : Byt s) (hl : D.length = n) (bad : Bool) :
    (∃ r : AnT, Ev (fun k => encode_reader_dictTexts.j2 k (many : Int) (n : Int) D false s bad) r) ∧
    (s.length = (many * Lib.bitLen (n - 1) + 7) / 8 → (∀ q ∈ ups s many (Lib.bitLen (n - 1)), q < (n : Int)) → Ev (fun k => encode_reader_dictTexts.j2 k (many : Int) (n : Int) D false s bad) ((ups s many (Lib.bitLen (n - 1))).map (rdOf ByteArray.empty D), [], bad)) := by
  have hw := bitLen11' hn
  have e1 : wrap64 ((n : Int) - 1) = (n : Int) - 1 := w64 (by omega) (by omega)
  have e2 : ((n : Int) - 1).toNat = n - 1 := by omega
  have hpk := pk_ev hs bad (m := many) (w := Lib.bitLen (n - 1)) hm (by omega)
  have head : ∀ (a : List Int × List Int × Bool) (r : AnT), Ev (fun k => encode_reader_packed.f k s bad (many : Int) ((Lib.bitLen (n - 1) : Nat) : Int)) a → Ev (fun k => encode_reader_dictTexts.l1 k (n : Int) D [] a.1 (a.1.length : Int) ((0 : Nat) : Int) a.2.1 a.2.2) r → Ev (fun k => encode_reader_dictTexts.j2 k (many : Int) (n : Int) D false s bad) r := by
    intro a r ha h
    refine Ev.step (fun k => by rw [encode_reader_dictTexts.j2]) (ev_neg (by simp) ?_)
    rw [e1, width_ev (by omega) (by omega), e2]
    exact Ev.bind (ev_some _) (Ev.bind ha h)
  by_cases hlen : s.length = (many * Lib.bitLen (n - 1) + 7) / 8
  · rw [if_pos hlen] at hpk
    have hul := ups_len s many (Lib.bitLen (n - 1))
    obtain ⟨⟨r, hr⟩, h2⟩ := pick_l1 (n := (n : Int)) (D := D) [] bad (by omega) (ups s many (Lib.bitLen (n - 1))) (by omega) (fun q hq => (ups_range q hq).1) _ 0 [] (by simp <;> omega) (by omega) (Nat.le_refl _)
    refine ⟨⟨r, head _ r hpk hr⟩, fun _ hall => ?_⟩
    have := head _ _ hpk (h2 hall)
    simpa using this
  · rw [if_neg hlen] at hpk
    obtain ⟨⟨r, hr⟩, _⟩ := pick_l1 (n := (n : Int)) (D := D) s true (by omega) [] (by simp) (by simp) _ 0 [] (by simp) (by simp) (Nat.le_refl _)
    exact ⟨⟨r, head _ r hpk hr⟩, fun h => absurd h hlen⟩
end Go.Proofs.Ythhdihnaicggiaa.C
