/- Values, read by the program's reader with each code, in plain Lean: an answer, whatever the bytes; and what was written is read. No conditions beyond those in each theorem. -/
import Derived.Test.YthhdihnaicggiaaJMA
import Derived.Test.YthhdihnaicggiaaJM9
import Derived.Lib.ItoaNum
namespace Go.Proofs.Ythhdihnaicggiaa.J
open Go.RowKit Go.Proofs.YthhdihnaicggiaaW.PrintWords Go.Proofs.YthhdihnaicggiaaW.PrintLast Go.Proofs.YthhdihnaicggiaaW.PrintMore
set_option linter.unusedVariables false
set_option linter.unusedSimpArgs false

abbrev Ans := List Int × List Int × Bool

/-! ### codes 1 and 5 -/
theorem v_bad (c many : Int) (out : List Int) (last : Int) (s : List Int) : Ev (fun k => encode_reader_values.l0 k c many out last s true) (out, s, true) := by
  refine Ev.step (fun k => by rw [encode_reader_values.l0]) ?_
  have hj : Ev (fun k => encode_reader_values.j2 k c many out last false s true) (out, s, true) := Ev.step (fun k => by rw [encode_reader_values.j2]) (ev_neg (by simp) (ev_some _))
  by_cases h : (out.length : Int) < many
  · exact ev_pos h hj
  · exact ev_neg h hj
theorem v_end (c many : Int) (out : List Int) (last : Int) (s : List Int) (h : ¬ (out.length : Int) < many) (bad : Bool) : Ev (fun k => encode_reader_values.l0 k c many out last s bad) (out, s, bad) :=
  Ev.step (fun k => by rw [encode_reader_values.l0]) (ev_neg h (Ev.step (fun k => by rw [encode_reader_values.j2]) (ev_neg (by simp) (ev_some _))))
/-- One value more. -/
theorem v_one {c : Int} {many : Int} {out : List Int} {last : Int} {s : List Int} (hs : Byt s) (h : (out.length : Int) < many) (hl : out.length ≤ 2000) (hp : -1000000000000000 ≤ last ∧ last ≤ 1000000000000000) {r : Ans}
    (v : Int) (hv : v = if c = 5 then (nt s false).1 + last else (nt s false).1)
    (hr : Ev (fun k => encode_reader_values.l0 k c many (out ++ [v]) v (nt s false).2.1 (if inR v then (nt s false).2.2 else true)) r) :
    Ev (fun k => encode_reader_values.l0 k c many out last s false) r := by
  have hn := nt_val s false
  have hw : wrap64 ((nt s false).1 + last) = (nt s false).1 + last := w64 (by omega) (by omega)
  refine Ev.step (fun k => by rw [encode_reader_values.l0]) (ev_pos h ?_)
  refine Ev.step (fun k => by rw [encode_reader_values.j2]) (ev_pos (show (!false) = true from rfl) (Ev.bind (nt_ev false hs) ?_))
  by_cases h5 : c = 5
  · rw [if_pos h5] at hv
    refine ev_pos h5 ?_
    rw [hw, ← hv, in_eq]
    refine Ev.bind (ev_some _) ?_
    by_cases hi : inR v = true
    · rw [hi, if_pos rfl] at hr
      exact ev_pos hi (ev_pos (by omega) hr)
    · rw [eq_false_of_ne_true hi, if_neg (by simp)] at hr
      exact ev_neg hi (ev_pos (by omega) hr)
  · rw [if_neg h5] at hv
    refine ev_neg h5 ?_
    rw [← hv, in_eq]
    refine Ev.bind (ev_some _) ?_
    by_cases hi : inR v = true
    · rw [hi, if_pos rfl] at hr
      exact ev_pos hi (ev_pos (by omega) hr)
    · rw [eq_false_of_ne_true hi, if_neg (by simp)] at hr
      exact ev_neg hi (ev_pos (by omega) hr)
theorem inR_iff (v : Int) : inR v = true ↔ -1000000000000000 ≤ v ∧ v ≤ 1000000000000000 := by simp [inR]
theorem v_total (c : Int) (n : Nat) : ∀ (out : List Int) (last : Int) (s : List Int), out.length + n ≤ 2000 → (-1000000000000000 ≤ last ∧ last ≤ 1000000000000000) → Byt s →
    ∃ r : Ans, Ev (fun k => encode_reader_values.l0 k c ((out.length + n : Nat) : Int) out last s false) r := by
  induction n with
  | zero =>
    intro out last s hl hp hs
    exact ⟨_, v_end c _ out last s (by omega) false⟩
  | succ n ih =>
    intro out last s hl hp hs
    obtain ⟨v, hv⟩ : ∃ v, v = if c = 5 then (nt s false).1 + last else (nt s false).1 := ⟨_, rfl⟩
    have key : ∃ r : Ans, Ev (fun k => encode_reader_values.l0 k c ((out.length + (n + 1) : Nat) : Int) (out ++ [v]) v (nt s false).2.1 (if inR v then (nt s false).2.2 else true)) r := by
      by_cases hi : inR v = true
      · rw [if_pos hi]
        cases hb : (nt s false).2.2 with
        | true => exact ⟨_, v_bad _ _ _ _ _⟩
        | false =>
          obtain ⟨r, hr⟩ := ih (out ++ [v]) v (nt s false).2.1 (by simp; omega) ((inR_iff v).1 hi) (nt_byt hs)
          rw [List.length_append, List.length_singleton, show out.length + 1 + n = out.length + (n + 1) by omega] at hr
          exact ⟨r, hr⟩
      · rw [if_neg hi]
        exact ⟨_, v_bad _ _ _ _ _⟩
    obtain ⟨r, hr⟩ := key
    exact ⟨r, v_one hs (by omega) (by omega) hp v hv hr⟩
theorem v_nums (rest : List Int) (hrest : Byt rest) : ∀ (l out : List Int) (last : Int), out.length + l.length ≤ 2000 → (-1000000000000000 ≤ last ∧ last ≤ 1000000000000000) → (∀ v ∈ l, -1000000000000000 ≤ v ∧ v ≤ 1000000000000000) → Byt (nums l ++ rest) →
    Ev (fun k => encode_reader_values.l0 k 1 ((out.length + l.length : Nat) : Int) out last (nums l ++ rest) false) (out ++ l, rest, false)
  | [], out, last, hl, hp, hv, hb => by
    have := v_end 1 ((out.length + 0 : Nat) : Int) out last rest (by omega) false
    simpa [nums] using this
  | v :: l, out, last, hl, hp, hv, hb => by
    have hm := hv v (List.mem_cons_self ..)
    have hl' : out.length + (l.length + 1) ≤ 2000 := hl
    have e : nums (v :: l) ++ rest = num v ++ (nums l ++ rest) := by simp [nums, List.append_assoc]
    have hb2 : Byt (nums l ++ rest) := fun x hx => hb x (by rw [e]; exact List.mem_append_right _ hx)
    have hnt := nt_num (nums l ++ rest) (show -4000000000000000 ≤ v by omega) (show v ≤ 4000000000000000 by omega)
    rw [← e] at hnt
    have ih := v_nums rest hrest l (out ++ [v]) v (by simp; omega) hm (fun x hx => hv x (List.mem_cons_of_mem _ hx)) hb2
    rw [List.length_append, List.length_singleton, show out.length + 1 + l.length = out.length + (l.length + 1) by omega, List.append_assoc] at ih
    refine v_one hb (by simp; omega) (by omega) hp v (by rw [hnt]; rfl) ?_
    rw [hnt, if_pos ((inR_iff v).2 hm)]
    exact ih
theorem v_dlt (rest : List Int) (hrest : Byt rest) : ∀ (l out : List Int) (last : Int), out.length + l.length ≤ 2000 → (-1000000000000000 ≤ last ∧ last ≤ 1000000000000000) → (∀ v ∈ l, -1000000000000000 ≤ v ∧ v ≤ 1000000000000000) → Byt (dlt last l ++ rest) →
    Ev (fun k => encode_reader_values.l0 k 5 ((out.length + l.length : Nat) : Int) out last (dlt last l ++ rest) false) (out ++ l, rest, false)
  | [], out, last, hl, hp, hv, hb => by
    have := v_end 5 ((out.length + 0 : Nat) : Int) out last rest (by omega) false
    simpa [dlt] using this
  | v :: l, out, last, hl, hp, hv, hb => by
    have hm := hv v (List.mem_cons_self ..)
    have hl' : out.length + (l.length + 1) ≤ 2000 := hl
    have e : dlt last (v :: l) ++ rest = num (v - last) ++ (dlt v l ++ rest) := by simp [dlt, List.append_assoc]
    have hb2 : Byt (dlt v l ++ rest) := fun x hx => hb x (by rw [e]; exact List.mem_append_right _ hx)
    have hnt := nt_num (dlt v l ++ rest) (show -4000000000000000 ≤ v - last by omega) (show v - last ≤ 4000000000000000 by omega)
    rw [← e] at hnt
    have ih := v_dlt rest hrest l (out ++ [v]) v (by simp; omega) hm (fun x hx => hv x (List.mem_cons_of_mem _ hx)) hb2
    rw [List.length_append, List.length_singleton, show out.length + 1 + l.length = out.length + (l.length + 1) by omega, List.append_assoc] at ih
    refine v_one hb (by simp; omega) (by omega) hp v (by rw [hnt]; simp) ?_
    rw [hnt, if_pos ((inR_iff v).2 hm)]
    exact ih

/-! ### code 2 -/
theorem r_bad (many : Int) (out : List Int) (s : List Int) : Ev (fun k => encode_reader_runs.l0 k many out s true) (out, s, true) := by
  refine Ev.step (fun k => by rw [encode_reader_runs.l0]) ?_
  have hj : Ev (fun k => encode_reader_runs.j1 k many out false s true) (out, s, true) := Ev.step (fun k => by rw [encode_reader_runs.j1]) (ev_neg (by simp) (ev_some _))
  by_cases h : (out.length : Int) < many
  · exact ev_pos h hj
  · exact ev_neg h hj
theorem r_l1bad (many : Int) (out : List Int) (v n j : Int) (s : List Int) : Ev (fun k => encode_reader_runs.l1 k many out v n j s true) (out, s, true) := by
  refine Ev.step (fun k => by rw [encode_reader_runs.l1]) ?_
  by_cases h : j < n
  · exact ev_pos h (ev_pos rfl (r_bad _ _ _))
  · exact ev_neg h (r_bad _ _ _)
theorem r_l1 (many : Int) (v : Int) (s : List Int) (r : Ans) (n : Nat) (d : Nat) : ∀ (j : Nat) (out : List Int), j + d = n → n ≤ 2000 → out.length + d ≤ 4000 → Ev (fun k => encode_reader_runs.l0 k many (out ++ List.replicate d v) s false) r → Ev (fun k => encode_reader_runs.l1 k many out v (n : Int) (j : Int) s false) r := by
  induction d with
  | zero =>
    intro j out hj hn ho h
    refine Ev.step (fun k => by rw [encode_reader_runs.l1]) (ev_neg (by omega) ?_)
    simpa using h
  | succ d ih =>
    intro j out hj hn ho h
    refine Ev.step (fun k => by rw [encode_reader_runs.l1]) (ev_pos (by omega) (ev_neg (by simp) (ev_pos (by omega) ?_)))
    rw [w64 (by omega) (by omega)]
    refine ih (j + 1) (out ++ [v]) (by omega) hn (by simp; omega) ?_
    simpa [List.replicate_succ] using h
/-- One run more. -/
theorem r_one {many : Nat} {out : List Int} {s : List Int} (hs : Byt s) (h : out.length < many) (hm : many ≤ 2000) {r : Ans} {v : Int} {n : Int} {s2 : List Int} {bad : Bool}
    (hv : v = (nt s false).1) (hc : ct (nt s false).2.1 (nt s false).2.2 = (n, s2, bad))
    (hr : (bad = true ∨ n = 0 ∨ n > (many : Int) - out.length) ∧ r = (out, s2, true) ∨ bad = false ∧ 0 < n ∧ n ≤ (many : Int) - out.length ∧ Ev (fun k => encode_reader_runs.l0 k (many : Int) (out ++ List.replicate n.toNat v) s2 false) r) :
    Ev (fun k => encode_reader_runs.l0 k (many : Int) out s false) r := by
  have hcv := ct_val (nt s false).2.1 (nt s false).2.2
  rw [hc] at hcv
  dsimp only at hcv
  refine Ev.step (fun k => by rw [encode_reader_runs.l0]) (ev_pos (by omega) ?_)
  refine Ev.step (fun k => by rw [encode_reader_runs.j1]) (ev_pos (show (!false) = true from rfl) (Ev.bind (nt_ev false hs) ?_))
  refine Ev.bind (ct_ev _ (nt_byt hs)) ?_
  rw [hc, ← hv]
  dsimp only
  have hj3 : ∀ b : Bool, (b = true → r = (out, s2, true)) → (b = false → Ev (fun k => encode_reader_runs.l1 k (many : Int) out v n 0 s2 false) r) → Ev (fun k => encode_reader_runs.j3 k (many : Int) out v n s2 b) r := by
    intro b h1 h2
    refine Ev.step (fun k => by rw [encode_reader_runs.j3]) ?_
    cases b with
    | true => rw [h1 rfl]; exact r_l1bad _ _ _ _ _ _
    | false => exact h2 rfl
  rw [w64 (n := (many : Int) - out.length) (by omega) (by omega)]
  have go : bad = false → 0 < n → n ≤ (many : Int) - out.length → Ev (fun k => encode_reader_runs.l1 k (many : Int) out v n 0 s2 false) r := by
    intro hb h0 h1
    rcases hr with ⟨h2, _⟩ | ⟨_, _, _, h2⟩
    · rcases h2 with h2 | h2 | h2
      · rw [hb] at h2; exact absurd h2 (by simp)
      · omega
      · omega
    · obtain ⟨q, hq⟩ := Int.eq_ofNat_of_zero_le hcv.1
      rw [hq] at h2 ⊢
      rw [Int.toNat_natCast] at h2
      exact r_l1 _ v s2 r q q 0 out (by omega) (by omega) (by omega) h2
  have stop : (bad = true ∨ n = 0 ∨ n > (many : Int) - out.length) → r = (out, s2, true) := by
    intro h0
    rcases hr with ⟨_, h2⟩ | ⟨h1, h2, h3, _⟩
    · exact h2
    · rcases h0 with h0 | h0 | h0
      · rw [h1] at h0; exact absurd h0 (by simp)
      · omega
      · omega
  by_cases h0 : n = 0
  · exact ev_pos h0 (Ev.step (fun k => by rw [encode_reader_runs.j2]) (ev_pos rfl (hj3 true (fun _ => stop (Or.inr (Or.inl h0))) (fun h => by cases h))))
  · refine ev_neg h0 (Ev.step (fun k => by rw [encode_reader_runs.j2]) ?_)
    by_cases hbig : n > (many : Int) - out.length
    · exact ev_pos (by simpa using hbig) (hj3 true (fun _ => stop (Or.inr (Or.inr hbig))) (fun h => by cases h))
    · exact ev_neg (by simpa using hbig) (hj3 bad (fun hb => stop (Or.inl hb)) (fun hb => go hb (by omega) (by omega)))
theorem r_total (many : Nat) (hm : many ≤ 2000) (n : Nat) : ∀ (out s : List Int), out.length ≤ many → many - out.length ≤ n → Byt s →
    ∃ r : Ans, Ev (fun k => encode_reader_runs.l0 k (many : Int) out s false) r := by
  have fin : ∀ (out s : List Int), ¬ out.length < many → ∃ r : Ans, Ev (fun k => encode_reader_runs.l0 k (many : Int) out s false) r := fun out s h =>
    ⟨(out, s, false), Ev.step (fun k => by rw [encode_reader_runs.l0]) (ev_neg (by omega) (Ev.step (fun k => by rw [encode_reader_runs.j1]) (ev_neg (by simp) (ev_some _))))⟩
  induction n with
  | zero => intro out s ho hn hs; exact fin out s (by omega)
  | succ n ih =>
    intro out s ho hn hs
    by_cases h : out.length < many
    · obtain ⟨c, s2, bad, hc⟩ : ∃ c s2 bad, ct (nt s false).2.1 (nt s false).2.2 = (c, s2, bad) := ⟨_, _, _, rfl⟩
      have hcv := ct_val (nt s false).2.1 (nt s false).2.2
      have hby : Byt s2 := by have := ct_byt (bad := (nt s false).2.2) (nt_byt (bad := false) hs); rw [hc] at this; exact this
      rw [hc] at hcv
      dsimp only at hcv
      by_cases hx : bad = true ∨ c = 0 ∨ c > (many : Int) - out.length
      · exact ⟨_, r_one hs h hm rfl hc (Or.inl ⟨hx, rfl⟩)⟩
      · have hx' := not_or.1 hx
        have hx2 := not_or.1 hx'.2
        obtain ⟨r, hr⟩ := ih (out ++ List.replicate c.toNat (nt s false).1) s2 (by simp; omega) (by simp; omega) hby
        exact ⟨r, r_one hs h hm rfl hc (Or.inr ⟨by simpa using hx'.1, by omega, by omega, hr⟩)⟩
    · exact fin out s h
theorem hdI_rep (b : Int) (l : List Int) : List.replicate (hdI b l) b ++ l.drop (hdI b l) = l := by
  induction l with
  | nil => simp [hdI]
  | cons c l ih =>
    unfold hdI
    split
    · rename_i h
      subst h
      rw [List.replicate_succ, List.cons_append, List.drop_succ_cons, ih]
    · simp
theorem r_rle (many : Nat) (hm : many ≤ 2000) (n : Nat) : ∀ (l out rest : List Int), l.length ≤ n → out.length + l.length = many → (∀ v ∈ l, -1000000000000000 ≤ v ∧ v ≤ 1000000000000000) → Byt (rle l ++ rest) →
    Ev (fun k => encode_reader_runs.l0 k (many : Int) out (rle l ++ rest) false) (out ++ l, rest, false) := by
  have fin : ∀ (out rest : List Int), ¬ out.length < many → Ev (fun k => encode_reader_runs.l0 k (many : Int) out rest false) (out, rest, false) := fun out s h =>
    Ev.step (fun k => by rw [encode_reader_runs.l0]) (ev_neg (by omega) (Ev.step (fun k => by rw [encode_reader_runs.j1]) (ev_neg (by simp) (ev_some _))))
  induction n with
  | zero =>
    intro l out rest hl ho hv hb
    have : l = [] := List.eq_nil_of_length_eq_zero (by omega)
    subst this
    rw [rle_nil, List.nil_append, List.append_nil]
    exact fin out rest (by simp at ho; omega)
  | succ n ih =>
    intro l out rest hl ho hv hb
    cases l with
    | nil =>
      rw [rle_nil, List.nil_append, List.append_nil]
      exact fin out rest (by simp at ho; omega)
    | cons b t =>
      have hm1 := hv b (List.mem_cons_self ..)
      have hle := hdI_le b t
      have ho' : out.length + (t.length + 1) = many := ho
      have hl' : t.length + 1 ≤ n + 1 := hl
      have e : rle (b :: t) ++ rest = num b ++ (cnt (hdI b t + 1) ++ (rle (t.drop (hdI b t)) ++ rest)) := by rw [rle_cons]; simp only [List.append_assoc]
      have hb2 : Byt (rle (t.drop (hdI b t)) ++ rest) := fun x hx => hb x (by rw [e]; exact List.mem_append_right _ (List.mem_append_right _ hx))
      have hnt := nt_num (cnt (hdI b t + 1) ++ (rle (t.drop (hdI b t)) ++ rest)) (show -4000000000000000 ≤ b by omega) (show b ≤ 4000000000000000 by omega)
      rw [← e] at hnt
      have hct : ct (nt (rle (b :: t) ++ rest) false).2.1 (nt (rle (b :: t) ++ rest) false).2.2 = (((hdI b t + 1 : Nat) : Int), rle (t.drop (hdI b t)) ++ rest, false) := by
        rw [hnt]
        exact ct_cnt _ (by omega)
      refine r_one hb (by omega) hm (v := b) (by rw [hnt]) hct (Or.inr ⟨rfl, by omega, by omega, ?_⟩)
      rw [Int.toNat_natCast]
      have := ih (t.drop (hdI b t)) (out ++ List.replicate (hdI b t + 1) b) rest (by simp; omega) (by simp; omega) (fun v h => hv v (List.mem_cons_of_mem _ (List.mem_of_mem_drop h))) hb2
      rw [List.append_assoc, List.replicate_succ, List.cons_append, hdI_rep] at this
      rw [List.replicate_succ]
      exact this

/-! ### code 3 -/
theorem d_l1 {n : Int} {l : List Int} (s : List Int) (bad : Bool) (hl : (l.length : Int) = n) (u : List Int) (hu : u.length ≤ 2000) (h0 : ∀ q ∈ u, 0 ≤ q) (d : Nat) : ∀ (i : Nat) (pre : List Int), pre.length = i → i ≤ u.length → u.length - i ≤ d →
    (∃ r : Ans, Ev (fun k => encode_reader_dict.l1 k n l (pre ++ u.drop i) (u.length : Int) (i : Int) s bad) r) ∧
    ((∀ q ∈ u, q < n) → Ev (fun k => encode_reader_dict.l1 k n l (pre ++ u.drop i) (u.length : Int) (i : Int) s bad) (pre ++ (u.drop i).map (rd l), s, bad)) := by
  induction d with
  | zero =>
    intro i pre hp hi hd
    have hf : Ev (fun k => encode_reader_dict.l1 k n l (pre ++ u.drop i) (u.length : Int) (i : Int) s bad) (pre ++ (u.drop i).map (rd l), s, bad) := by
      refine Ev.step (fun k => by rw [encode_reader_dict.l1]) (ev_neg (by omega) ?_)
      rw [List.drop_eq_nil_of_le (by omega)]
      exact ev_some _
    exact ⟨⟨_, hf⟩, fun _ => hf⟩
  | succ d ih =>
    intro i pre hp hi hd
    by_cases hlt : i < u.length
    · have hm := mem_getD hlt
      have hq0 := h0 _ hm
      have hlen : (pre ++ u.drop i).length = u.length := by simp; omega
      have hrd : rd (pre ++ u.drop i) (i : Int) = u.getD i 0 := by
        rw [rdD, List.getD, List.getElem?_append_right (by omega), hp, Nat.sub_self, List.getElem?_drop, Nat.add_zero]
        rfl
      have hset : (pre ++ u.drop i).set i (rd l (u.getD i 0)) = (pre ++ [rd l (u.getD i 0)]) ++ u.drop (i + 1) := by
        rw [List.set_append_right _ _ (by omega), hp, Nat.sub_self, getD_drop_head (d := 0) hlt, List.set_cons_zero, List.append_assoc]
        rfl
      obtain ⟨⟨r, hr⟩, h2⟩ := ih (i + 1) (pre ++ [rd l (u.getD i 0)]) (by simp [hp]) (by omega) (by omega)
      have head : ∀ r : Ans, u.getD i 0 < n → Ev (fun k => encode_reader_dict.l1 k n l (pre ++ [rd l (u.getD i 0)] ++ u.drop (i + 1)) (u.length : Int) ((i + 1 : Nat) : Int) s bad) r → Ev (fun k => encode_reader_dict.l1 k n l (pre ++ u.drop i) (u.length : Int) (i : Int) s bad) r := by
        intro r hq h
        refine Ev.step (fun k => by rw [encode_reader_dict.l1]) ?_
        rw [hrd, Int.toNat_natCast, hset, w64 (by omega) (by omega)]
        exact ev_pos (by omega) (ev_pos (by omega) (ev_pos (by omega) (ev_neg (by omega) (ev_pos (by omega) (ev_pos (by omega) h)))))
      constructor
      · by_cases hq : u.getD i 0 < n
        · exact ⟨r, head r hq hr⟩
        · refine ⟨([], s, true), Ev.step (fun k => by rw [encode_reader_dict.l1]) ?_⟩
          rw [hrd]
          exact ev_pos (by omega) (ev_pos (by omega) (ev_pos (by omega) (ev_pos (by omega) (ev_some _))))
      · intro hall
        have := head _ (hall _ hm) (h2 hall)
        rw [getD_drop_head (d := 0) hlt, List.map_cons]
        rw [getD_drop_head (d := 0) hlt, List.append_assoc] at this
        simpa using this
    · have hf : Ev (fun k => encode_reader_dict.l1 k n l (pre ++ u.drop i) (u.length : Int) (i : Int) s bad) (pre ++ (u.drop i).map (rd l), s, bad) := by
        refine Ev.step (fun k => by rw [encode_reader_dict.l1]) (ev_neg (by omega) ?_)
        rw [List.drop_eq_nil_of_le (by omega)]
        exact ev_some _
      exact ⟨⟨_, hf⟩, fun _ => hf⟩
theorem bitLen11 {n : Nat} (h : n ≤ 2000) : Lib.bitLen (n - 1) ≤ 11 := Lib.bitLen_le _ 11 (by omega) (by omega)
theorem d_j2bad (many n : Int) (l s : List Int) : Ev (fun k => encode_reader_dict.j2 k many n l s true) ([], s, true) :=
  Ev.step (fun k => by rw [encode_reader_dict.j2]) (ev_pos rfl (ev_some _))
theorem d_j2 {many n : Nat} (hm : many ≤ 2000) (h1 : 1 ≤ n) (hn : n ≤ 2000) {l s : List Int} (hs : Byt s) (hl : l.length = n) :
    (∃ r : Ans, Ev (fun k => encode_reader_dict.j2 k (many : Int) (n : Int) l s false) r) ∧
    (s.length = (many * Lib.bitLen (n - 1) + 7) / 8 → (∀ q ∈ ups s many (Lib.bitLen (n - 1)), q < (n : Int)) → Ev (fun k => encode_reader_dict.j2 k (many : Int) (n : Int) l s false) ((ups s many (Lib.bitLen (n - 1))).map (rd l), [], false)) := by
  have hw := bitLen11 hn
  have e1 : wrap64 ((n : Int) - 1) = (n : Int) - 1 := w64 (by omega) (by omega)
  have e2 : ((n : Int) - 1).toNat = n - 1 := by omega
  have hpk := pk_ev hs false (m := many) (w := Lib.bitLen (n - 1)) hm (by omega)
  by_cases hlen : s.length = (many * Lib.bitLen (n - 1) + 7) / 8
  · rw [if_pos hlen] at hpk
    have hul := ups_len s many (Lib.bitLen (n - 1))
    obtain ⟨⟨r, hr⟩, h2⟩ := d_l1 (n := (n : Int)) (l := l) [] false (by omega) (ups s many (Lib.bitLen (n - 1))) (by omega) (fun q hq => (ups_range q hq).1) _ 0 [] rfl (by omega) (Nat.le_refl _)
    have head : ∀ r : Ans, Ev (fun k => encode_reader_dict.l1 k (n : Int) l ([] ++ (ups s many (Lib.bitLen (n - 1))).drop 0) ((ups s many (Lib.bitLen (n - 1))).length : Int) ((0 : Nat) : Int) [] false) r → Ev (fun k => encode_reader_dict.j2 k (many : Int) (n : Int) l s false) r := by
      intro r h
      refine Ev.step (fun k => by rw [encode_reader_dict.j2]) (ev_neg (by simp) ?_)
      rw [e1, width_ev (by omega) (by omega), e2]
      exact Ev.bind (ev_some _) (Ev.bind hpk h)
    refine ⟨⟨r, head r hr⟩, fun _ hall => ?_⟩
    have := head _ (h2 hall)
    simpa using this
  · rw [if_neg hlen] at hpk
    refine ⟨⟨([], s, true), Ev.step (fun k => by rw [encode_reader_dict.j2]) (ev_neg (by simp) ?_)⟩, fun h => absurd h hlen⟩
    rw [e1, width_ev (by omega) (by omega), e2]
    refine Ev.bind (ev_some _) (Ev.bind hpk (Ev.step (fun k => by rw [encode_reader_dict.l1]) (ev_neg (by simp) (ev_some _))))
theorem d_l0bad (many n : Int) (l s : List Int) : Ev (fun k => encode_reader_dict.l0 k many n l s true) ([], s, true) := by
  refine Ev.step (fun k => by rw [encode_reader_dict.l0]) ?_
  by_cases h : (l.length : Int) < n
  · exact ev_pos h (ev_pos rfl (d_j2bad _ _ _ _))
  · exact ev_neg h (d_j2bad _ _ _ _)
theorem d_one {many n : Int} {l s : List Int} (hs : Byt s) (h : (l.length : Int) < n) (h1 : 0 < l.length) (hn : n ≤ 2000) {r : Ans} (hr : Ev (fun k => encode_reader_dict.l0 k many n (l ++ [wrap64 (l.getD (l.length - 1) 0 + (ct s false).1)]) (ct s false).2.1 (ct s false).2.2) r) :
    Ev (fun k => encode_reader_dict.l0 k many n l s false) r := by
  have e1 : wrap64 ((l.length : Int) - 1) = ((l.length - 1 : Nat) : Int) := by rw [w64 (by omega) (by omega)]; omega
  refine Ev.step (fun k => by rw [encode_reader_dict.l0]) (ev_pos h (ev_neg (by simp) ?_))
  rw [e1, rdD]
  exact ev_pos (by omega) (ev_pos (by omega) (Ev.bind (ct_ev false hs) (ev_pos (by omega) hr)))
theorem d_total {many n : Nat} (hm : many ≤ 2000) (hn : n ≤ 2000) (d : Nat) : ∀ (l s : List Int), 0 < l.length → l.length + d = n → Byt s → ∃ r : Ans, Ev (fun k => encode_reader_dict.l0 k (many : Int) (n : Int) l s false) r := by
  induction d with
  | zero =>
    intro l s h0 hl hs
    obtain ⟨r, hr⟩ := (d_j2 hm (n := n) (by omega) hn hs (l := l) (by omega)).1
    exact ⟨r, Ev.step (fun k => by rw [encode_reader_dict.l0]) (ev_neg (by omega) hr)⟩
  | succ d ih =>
    intro l s h0 hl hs
    have key : ∃ r : Ans, Ev (fun k => encode_reader_dict.l0 k (many : Int) (n : Int) (l ++ [wrap64 (l.getD (l.length - 1) 0 + (ct s false).1)]) (ct s false).2.1 (ct s false).2.2) r := by
      cases hb : (ct s false).2.2 with
      | true => exact ⟨_, d_l0bad _ _ _ _⟩
      | false => exact ih _ _ (by simp) (by simp; omega) (ct_byt hs)
    obtain ⟨r, hr⟩ := key
    exact ⟨r, d_one hs (by omega) h0 (by omega) hr⟩
theorem d_dif {many n : Nat} (hn : n ≤ 2000) (d : Nat) (rest : List Int) (r : Ans) : ∀ (t pre : List Int) (p : Int), pre.length + 1 + t.length = n → t.length ≤ d → (p :: t).Pairwise (· < ·) → (∀ v ∈ p :: t, -1000000000000000 ≤ v ∧ v ≤ 1000000000000000) → Byt (dif p t ++ rest) →
    Ev (fun k => encode_reader_dict.j2 k (many : Int) (n : Int) (pre ++ p :: t) rest false) r →
    Ev (fun k => encode_reader_dict.l0 k (many : Int) (n : Int) (pre ++ [p]) (dif p t ++ rest) false) r := by
  induction d with
  | zero =>
    intro t pre p hl ht hs hv hb h
    have : t = [] := List.eq_nil_of_length_eq_zero (by omega)
    subst this
    refine Ev.step (fun k => by rw [encode_reader_dict.l0]) (ev_neg (by simp; simp at hl; omega) ?_)
    simpa [dif] using h
  | succ d ih =>
    intro t pre p hl ht hs hv hb h
    cases t with
    | nil =>
      refine Ev.step (fun k => by rw [encode_reader_dict.l0]) (ev_neg (by simp; simp at hl; omega) ?_)
      simpa [dif] using h
    | cons b t =>
      have hl' : pre.length + 1 + (t.length + 1) = n := hl
      have ht' : t.length + 1 ≤ d + 1 := ht
      have hp := hv p (List.mem_cons_self ..)
      have hb1 := hv b (by simp)
      have hlt : p < b := by
        have := (List.pairwise_cons.1 hs).1 b (List.mem_cons_self ..)
        exact this
      have e : dif p (b :: t) ++ rest = cnt (b - p).toNat ++ (dif b t ++ rest) := by rw [dif, List.append_assoc]
      have hct := ct_cnt (n := (b - p).toNat) (dif b t ++ rest) (by omega)
      rw [← e] at hct
      refine d_one hb (by simp; omega) (by simp) (by omega) ?_
      have hlast : (pre ++ [p]).getD ((pre ++ [p]).length - 1) 0 = p := by simp [List.getD]
      rw [hct, hlast]
      dsimp only
      rw [show wrap64 (p + ((b - p).toNat : Int)) = b by rw [w64 (by omega) (by omega)]; omega]
      refine ih t (pre ++ [p]) b (by simp; omega) (by omega) (List.pairwise_cons.1 hs).2 (fun v hv' => hv v (List.mem_cons_of_mem _ hv')) (fun x hx => hb x (by rw [e]; exact List.mem_append_right _ hx)) ?_
      simpa using h
theorem dict_total {many : Nat} (hm : many ≤ 2000) {s : List Int} (hs : Byt s) : ∃ r : Ans, Ev (fun k => encode_reader_dict.f k s false (many : Int)) r := by
  have hlv := lt_val s false
  obtain ⟨n, hn⟩ := Int.eq_ofNat_of_zero_le hlv.1
  have j0t : Ev (fun k => encode_reader_dict.j0 k (many : Int) (lt_ s false).1 true (lt_ s false).2.1 (lt_ s false).2.2) ([], (lt_ s false).2.1, true) :=
    Ev.step (fun k => by rw [encode_reader_dict.j0]) (ev_pos rfl (ev_some _))
  by_cases h0 : (lt_ s false).1 = 0
  · exact ⟨_, by unfold encode_reader_dict.f; exact Ev.bind (lt_ev false hs) (ev_pos h0 j0t)⟩
  · cases hb : (lt_ s false).2.2 with
    | true => exact ⟨([], (lt_ s false).2.1, true), by
        unfold encode_reader_dict.f
        refine Ev.bind (lt_ev false hs) (ev_neg h0 ?_)
        rw [hb] at j0t ⊢
        exact j0t⟩
    | false =>
      have key : ∃ r : Ans, Ev (fun k => encode_reader_dict.l0 k (many : Int) (n : Int) [(nt (lt_ s false).2.1 false).1] (nt (lt_ s false).2.1 false).2.1 (nt (lt_ s false).2.1 false).2.2) r := by
        cases hb2 : (nt (lt_ s false).2.1 false).2.2 with
        | true => exact ⟨_, d_l0bad _ _ _ _⟩
        | false => exact d_total hm (n := n) (by omega) (n - 1) _ _ (by simp) (by simp; omega) (nt_byt (lt_byt hs))
      obtain ⟨r, hr⟩ := key
      refine ⟨r, ?_⟩
      unfold encode_reader_dict.f
      refine Ev.bind (lt_ev false hs) (ev_neg h0 ?_)
      rw [hb]
      refine Ev.step (fun k => by rw [encode_reader_dict.j0]) (ev_neg (by simp) (Ev.bind (nt_ev false (lt_byt hs)) ?_))
      rw [hn]
      exact hr
theorem bitLen_lt (x : Nat) (h : x < 18446744073709551616) : x < 2 ^ Lib.bitLen x := by
  by_cases h0 : x = 0
  · subst h0; exact Nat.pow_pos (by omega)
  · exact (Lib.bitLenAux_bounds 64 x (by omega) h0).2.2
theorem dict_round {l : List Int} (h : Okv l) (hne : l ≠ []) (hb : Byt (dict l)) : Ev (fun k => encode_reader_dict.f k (dict l) false (l.length : Int)) (l, [], false) := by
  have hn := h.1
  have hs := dst_sorted l
  have hdl := dst_len l
  have hdp := dst_ne hne
  have hdv : ∀ v ∈ dst l, -1000000000000000 ≤ v ∧ v ≤ 1000000000000000 := fun v hv => h.2 v ((hs.2 v).1 hv)
  have hcons : dst l = (dst l).getD 0 0 :: (dst l).drop 1 := by
    have := getD_drop_head (d := 0) hdp
    rwa [List.drop_zero] at this
  have h0v := hdv _ (mem_getD hdp)
  have e : dict l = cnt (dst l).length ++ (num ((dst l).getD 0 0) ++ (dif ((dst l).getD 0 0) ((dst l).drop 1) ++ pb (allbits (pls l) (Lib.bitLen ((dst l).length - 1))))) := by unfold dict; simp only [List.append_assoc]
  have hlt := lt_cnt (n := (dst l).length) (num ((dst l).getD 0 0) ++ (dif ((dst l).getD 0 0) ((dst l).drop 1) ++ pb (allbits (pls l) (Lib.bitLen ((dst l).length - 1))))) (by omega)
  rw [← e] at hlt
  have hnt := nt_num (dif ((dst l).getD 0 0) ((dst l).drop 1) ++ pb (allbits (pls l) (Lib.bitLen ((dst l).length - 1)))) (v := (dst l).getD 0 0) (by omega) (by omega)
  have hb1 : Byt (num ((dst l).getD 0 0) ++ (dif ((dst l).getD 0 0) ((dst l).drop 1) ++ pb (allbits (pls l) (Lib.bitLen ((dst l).length - 1))))) := fun x hx => hb x (by rw [e]; exact List.mem_append_right _ hx)
  have hb2 : Byt (dif ((dst l).getD 0 0) ((dst l).drop 1) ++ pb (allbits (pls l) (Lib.bitLen ((dst l).length - 1)))) := fun x hx => hb1 x (List.mem_append_right _ hx)
  unfold encode_reader_dict.f
  refine Ev.bind (lt_ev false hb) ?_
  rw [hlt]
  refine ev_neg (show ¬ ((dst l).length : Int) = 0 by omega) ?_
  refine Ev.step (fun k => by rw [encode_reader_dict.j0]) (ev_neg (by simp) (Ev.bind (nt_ev false hb1) ?_))
  rw [hnt]
  dsimp only
  have hbl := bitLen_lt ((dst l).length - 1) (by omega)
  have hplr : ∀ v ∈ pls l, 0 ≤ v ∧ v < 2 ^ Lib.bitLen ((dst l).length - 1) := by
    intro v hv
    have h1 := pls_range v hv
    have h2 : (((dst l).length - 1 : Nat) : Int) < (2 : Int) ^ Lib.bitLen ((dst l).length - 1) := by exact_mod_cast hbl
    exact ⟨h1.1, by omega⟩
  have hups := ups_pb hplr
  rw [pls_len] at hups
  refine d_dif (many := l.length) (n := (dst l).length) (by omega) _ _ _ ((dst l).drop 1) [] ((dst l).getD 0 0) (by simp; omega) (Nat.le_refl _) (by rw [← hcons]; exact hs.1) (by rw [← hcons]; exact hdv) hb2 ?_
  rw [List.nil_append, ← hcons]
  have := (d_j2 (many := l.length) hn (n := (dst l).length) (by omega) (by omega) (l := dst l) (s := pb (allbits (pls l) (Lib.bitLen ((dst l).length - 1)))) (fun x hx => hb2 x (List.mem_append_right _ hx)) rfl).2 (by rw [pb_len, allbits_len, pls_len]) ?_
  · rw [hups] at this
    have hmap : (pls l).map (rd (dst l)) = l := by
      unfold pls
      rw [List.map_map]
      have : ∀ v ∈ l, (rd (dst l) ∘ fun v => (pl (dst l) v : Int)) v = v := by
        intro v hv
        simp only [Function.comp]
        rw [rdD, pl_get ((hs.2 v).2 hv)]
      rw [List.map_congr_left this]
      simp
    rw [hmap] at this
    exact this
  · rw [hups]
    exact fun q hq => (pls_range q hq).2

/-! ### code 4 -/
theorem f_l1 (least : Int) (s : List Int) (bad : Bool) (u : List Int) (hu : u.length ≤ 100000) (d : Nat) : ∀ (i : Nat) (pre : List Int), pre.length = i → i ≤ u.length → u.length - i ≤ d →
    Ev (fun k => encode_reader_values.l1 k (pre ++ u.drop i) least (u.length : Int) (i : Int) s bad) (pre ++ (u.drop i).map (fun v => wrap64 (v + least)), s, bad) := by
  induction d with
  | zero =>
    intro i pre hp hi hd
    refine Ev.step (fun k => by rw [encode_reader_values.l1]) (ev_neg (by omega) ?_)
    rw [List.drop_eq_nil_of_le (by omega)]
    exact ev_some _
  | succ d ih =>
    intro i pre hp hi hd
    refine Ev.step (fun k => by rw [encode_reader_values.l1]) ?_
    by_cases hlt : i < u.length
    · have hlen : (pre ++ u.drop i).length = u.length := by simp; omega
      have hrd : rd (pre ++ u.drop i) (i : Int) = u.getD i 0 := by
        rw [rdD, List.getD, List.getElem?_append_right (by omega), hp, Nat.sub_self, List.getElem?_drop, Nat.add_zero]
        rfl
      have hset : (pre ++ u.drop i).set i (wrap64 (u.getD i 0 + least)) = (pre ++ [wrap64 (u.getD i 0 + least)]) ++ u.drop (i + 1) := by
        rw [List.set_append_right _ _ (by omega), hp, Nat.sub_self, getD_drop_head (d := 0) hlt, List.set_cons_zero, List.append_assoc]
        rfl
      have := ih (i + 1) (pre ++ [wrap64 (u.getD i 0 + least)]) (by simp [hp]) (by omega) (by omega)
      rw [hrd, Int.toNat_natCast, hset, w64 (n := (i : Int) + 1) (by omega) (by omega)]
      refine ev_pos (by omega) (ev_pos (by omega) (ev_pos (by omega) (ev_eq this ?_)))
      rw [getD_drop_head (d := 0) hlt, List.map_cons, List.append_assoc]
      rfl
    · refine ev_neg (by omega) ?_
      rw [List.drop_eq_nil_of_le (by omega)]
      exact ev_some _
theorem f_j4 (u : List Int) (hu : u.length ≤ 100000) (least : Int) (s : List Int) (bad : Bool) : Ev (fun k => encode_reader_values.j4 k u least s bad) (u.map (fun v => wrap64 (v + least)), s, bad) :=
  Ev.step (fun k => by rw [encode_reader_values.j4]) (by simpa using f_l1 least s bad u hu _ 0 [] rfl (by omega) (Nat.le_refl _))
theorem f_j3 {many : Nat} (hm : many ≤ 2000) (least : Int) {w : Int} (w0 : 0 ≤ w) (w1 : w ≤ 52) {s : List Int} (hs : Byt s) (bad : Bool) : ∃ r : Ans, Ev (fun k => encode_reader_values.j3 k (many : Int) [] least w s bad) r := by
  cases bad with
  | true => exact ⟨_, Ev.step (fun k => by rw [encode_reader_values.j3]) (ev_pos rfl (f_j4 [] (by simp) least s true))⟩
  | false =>
    obtain ⟨q, rfl⟩ := Int.eq_ofNat_of_zero_le w0
    have hpk := pk_ev hs false (m := many) (w := q) hm (by omega)
    by_cases hl : s.length = (many * q + 7) / 8
    · rw [if_pos hl] at hpk
      exact ⟨_, Ev.step (fun k => by rw [encode_reader_values.j3]) (ev_neg (by simp) (Ev.bind hpk (f_j4 (ups s many q) (by rw [ups_len]; omega) least [] false)))⟩
    · rw [if_neg hl] at hpk
      exact ⟨_, Ev.step (fun k => by rw [encode_reader_values.j3]) (ev_neg (by simp) (Ev.bind hpk (f_j4 [] (by simp) least s true)))⟩

/-! ### all codes -/
theorem values_total {c : Int} (hc : 1 ≤ c ∧ c ≤ 5) {many : Nat} (hm : many ≤ 2000) {s : List Int} (hs : Byt s) : ∃ r : Ans, Ev (fun k => encode_reader_values.f k s false c (many : Int)) r := by
  unfold encode_reader_values.f
  have hv := v_total c many [] 0 s (by simpa using hm) (by omega) hs
  rw [show (([] : List Int).length + many) = many by simp] at hv
  by_cases h1 : c = 1
  · obtain ⟨r, hr⟩ := hv
    exact ⟨r, ev_pos h1 (Ev.step (fun k => by rw [encode_reader_values.j0]) (ev_pos (by simp [h1]) hr))⟩
  · by_cases h5 : c = 5
    · obtain ⟨r, hr⟩ := hv
      exact ⟨r, ev_neg h1 (Ev.step (fun k => by rw [encode_reader_values.j0]) (ev_pos (by simp [h5]) hr))⟩
    · have hn5 : ¬ (c == 5) = true := by simpa using h5
      by_cases h2 : c = 2
      · obtain ⟨r, hr⟩ := r_total many hm many [] s (by simp) (by simp) hs
        exact ⟨_, ev_neg h1 (Ev.step (fun k => by rw [encode_reader_values.j0]) (ev_neg hn5 (ev_pos h2 (Ev.bind (show Ev (fun k => encode_reader_runs.f k s false (many : Int)) r from hr) (ev_some _)))))⟩
      · by_cases h3 : c = 3
        · obtain ⟨r, hr⟩ := dict_total hm hs
          exact ⟨_, ev_neg h1 (Ev.step (fun k => by rw [encode_reader_values.j0]) (ev_neg hn5 (ev_neg h2 (ev_pos h3 (Ev.bind hr (ev_some _))))))⟩
        · have h4 : c = 4 := by omega
          have hb := byteB (nt s false).2.1 (nt s false).2.2 (nt_byt hs)
          have hb1 : Byt (nt s false).2.1.tail := by rw [← List.drop_one]; exact (nt_byt hs).drop 1
          have hh : 0 ≤ (nt s false).2.1.headD 0 := by
            cases he : (nt s false).2.1 with
            | nil => simp
            | cons x t => exact (nt_byt (bad := false) hs x (by rw [he]; exact List.mem_cons_self ..)).1
          have key : ∃ r : Ans, Ev (fun k => if (nt s false).2.1.headD 0 > 52 then encode_reader_values.j3 k (many : Int) [] (nt s false).1 ((nt s false).2.1.headD 0) (nt s false).2.1.tail true else encode_reader_values.j3 k (many : Int) [] (nt s false).1 ((nt s false).2.1.headD 0) (nt s false).2.1.tail ((nt s false).2.2 || (nt s false).2.1.isEmpty)) r := by
            by_cases hw : (nt s false).2.1.headD 0 > 52
            · exact ⟨_, ev_pos hw (Ev.step (fun k => by rw [encode_reader_values.j3]) (ev_pos rfl (f_j4 [] (by simp) _ _ true)))⟩
            · obtain ⟨r, hr⟩ := f_j3 hm (nt s false).1 hh (by omega) hb1 ((nt s false).2.2 || (nt s false).2.1.isEmpty)
              exact ⟨r, ev_neg hw hr⟩
          obtain ⟨r, hr⟩ := key
          refine ⟨r, ev_neg h1 (Ev.step (fun k => by rw [encode_reader_values.j0]) (ev_neg hn5 (ev_neg h2 (ev_neg h3 (ev_pos h4 (Ev.bind (nt_ev false hs) ?_))))))⟩
          rw [hb]
          exact Ev.bind (ev_some _) hr
theorem values_round {c : Nat} (hc : 1 ≤ c ∧ c ≤ 5) {l : List Int} (h : Okv l) (hne : l ≠ []) (hb : Byt (body c l)) : Ev (fun k => encode_reader_values.f k (body c l) false (c : Int) (l.length : Int)) (l, [], false) := by
  have hn := h.1
  unfold encode_reader_values.f
  by_cases h1 : c = 1
  · subst h1
    have hv := v_nums [] (by intro x hx; simp at hx) l [] 0 (by simpa using hn) (by omega) h.2 (by simpa [body] using hb)
    rw [show (([] : List Int).length + l.length) = l.length by simp, List.append_nil, List.nil_append] at hv
    refine ev_pos rfl (Ev.step (fun k => by rw [encode_reader_values.j0]) (ev_pos (by simp) ?_))
    simpa [body] using hv
  · refine ev_neg (by omega) ?_
    by_cases h5 : c = 5
    · subst h5
      have hv := v_dlt [] (by intro x hx; simp at hx) l [] 0 (by simpa using hn) (by omega) h.2 (by simpa [body] using hb)
      rw [show (([] : List Int).length + l.length) = l.length by simp, List.append_nil, List.nil_append] at hv
      refine Ev.step (fun k => by rw [encode_reader_values.j0]) (ev_pos (by simp) ?_)
      simpa [body] using hv
    · have hn5 : ¬ ((c : Int) == 5) = true := by simp; omega
      refine Ev.step (fun k => by rw [encode_reader_values.j0]) (ev_neg hn5 ?_)
      by_cases h2 : c = 2
      · subst h2
        have hv := r_rle l.length hn _ l [] [] (Nat.le_refl _) (by simp) h.2 (by simpa [body] using hb)
        rw [List.append_nil, List.nil_append] at hv
        have e : body 2 l = rle l := by simp [body]
        rw [e]
        exact ev_pos rfl (Ev.bind (show Ev (fun k => encode_reader_runs.f k (rle l) false (l.length : Int)) (l, [], false) from hv) (ev_some _))
      · refine ev_neg (by omega) ?_
        by_cases h3 : c = 3
        · subst h3
          have e : body 3 l = dict l := by simp [body]
          rw [e] at hb ⊢
          exact ev_pos rfl (Ev.bind (dict_round h hne hb) (ev_some _))
        · refine ev_neg (by omega) ?_
          have h4 : c = 4 := by omega
          subst h4
          have e : body 4 l = num (Lib.minOf l) ++ ((fw l : Int) :: pb (allbits (fs l) (fw l))) := by simp [body, frame]
          rw [e] at hb ⊢
          have hm := h.2 _ (minOf_le l hne).1
          have hx := h.2 _ (maxOf_ge l hne).1
          have hmx := (minOf_le l hne).2 _ (maxOf_ge l hne).1
          have hfw := fw_le h hne
          have hnt := nt_num (((fw l : Int) :: pb (allbits (fs l) (fw l)))) (v := Lib.minOf l) (by omega) (by omega)
          have hb2 : Byt ((fw l : Int) :: pb (allbits (fs l) (fw l))) := fun x hx => hb x (List.mem_append_right _ hx)
          have hb3 : Byt (pb (allbits (fs l) (fw l))) := fun x hx => hb2 x (List.mem_cons_of_mem _ hx)
          have hfl : (fs l).length = l.length := by simp [fs]
          have hbl := bitLen_lt (Lib.maxOf l - Lib.minOf l).toNat (by omega)
          have hfr : ∀ v ∈ fs l, 0 ≤ v ∧ v < 2 ^ fw l := by
            intro v hv
            have h1 := fs_range h hne v hv
            have h2 : ((Lib.maxOf l - Lib.minOf l).toNat : Int) < (2 : Int) ^ fw l := by exact_mod_cast hbl
            exact ⟨h1.1, by omega⟩
          have hups := ups_pb hfr
          rw [hfl] at hups
          have hpk := pk_ev hb3 false (m := l.length) (w := fw l) hn (by omega)
          rw [if_pos (by rw [pb_len, allbits_len, hfl]), hups] at hpk
          refine ev_pos rfl (Ev.bind (nt_ev false hb) ?_)
          rw [hnt]
          dsimp only
          rw [byteB _ false hb2]
          refine Ev.bind (ev_some _) (ev_neg (show ¬ (fw l : Int) > 52 by omega) ?_)
          refine (show Ev (fun k => encode_reader_values.j3 k (l.length : Int) [] (Lib.minOf l) (fw l : Int) (pb (allbits (fs l) (fw l))) false) (l, [], false) from ?_)
          refine Ev.step (fun k => by rw [encode_reader_values.j3]) (ev_neg (by simp) (Ev.bind hpk (ev_eq (f_j4 (fs l) (by omega) _ _ _) ?_)))
          have hmap : (fs l).map (fun v => wrap64 (v + Lib.minOf l)) = l := by
            unfold fs
            rw [List.map_map]
            have : ∀ v ∈ l, ((fun v => wrap64 (v + Lib.minOf l)) ∘ fun v => v - Lib.minOf l) v = v := by
              intro v hv
              have := h.2 v hv
              simp only [Function.comp]
              rw [w64 (by omega) (by omega)]
              omega
            rw [List.map_congr_left this]
            simp
          rw [hmap]
end Go.Proofs.Ythhdihnaicggiaa.J
