/- Texts, decoded, in plain Lean; and the law EncodeTextsComeBack, as the row asks for it. No conditions beyond those in each theorem. -/
import Derived.Test.YthhdihnaicggiaaCMX2
import Derived.Test.YthhdihnaicggiaaCMDI
namespace Go.Proofs.Ythhdihnaicggiaa.C
open Go.RowKit Go.Proofs.YthhdihnaicggiaaW.PrintWords Go.Proofs.YthhdihnaicggiaaW.PrintLast Go.Proofs.YthhdihnaicggiaaW.PrintMore
set_option linter.unusedVariables false
set_option linter.unusedSimpArgs false
theorem tail_byt {s : List Int} (h : Byt s) : Byt s.tail := by rw [← List.drop_one]; exact h.drop 1

/-! ### a dictionary -/
theorem dj1_end {many n : Nat} (hm : many ≤ 2000) (hn : n ≤ 2000) {D : List ByteArray} (x7 : ByteArray) {s : List Int} (hs : Byt s) (bad : Bool) (hl : bad = true ∨ D.length = n) :
    ∃ r : AnT, Ev (fun k => encode_reader_dictTexts.j1 k (many : Int) (n : Int) D x7 false s bad) r := by
  by_cases h0 : n = 0
  · exact ⟨_, Ev.step (fun k => by rw [encode_reader_dictTexts.j1]) (ev_neg (by simp) (ev_pos (by omega) (j2_bad _ _ _ _ _)))⟩
  · cases bad with
    | true => exact ⟨_, Ev.step (fun k => by rw [encode_reader_dictTexts.j1]) (ev_neg (by simp) (ev_neg (by omega) (j2_bad _ _ _ _ _)))⟩
    | false =>
      obtain ⟨⟨r, hr⟩, _⟩ := j2_ok hm (n := n) (by omega) hn hs (hl.resolve_left (by simp)) false
      exact ⟨r, Ev.step (fun k => by rw [encode_reader_dictTexts.j1]) (ev_neg (by simp) (ev_neg (by omega) hr))⟩
/-- One text more. -/
theorem dl_one {many n : Int} {out : List ByteArray} {x7 : ByteArray} {s : List Int} (hs : Byt s) (h : (out.length : Int) < n) (ho : out.length ≤ 2000) (hx : x7.size ≤ 1000000) {p q : Nat} {s1 s2 : List Int} {b1 b2 : Bool}
    (h1 : ct s false = ((p : Int), s1, b1)) (h2 : ct s1 b1 = ((q : Int), s2, b2)) {r : AnT}
    (hr : ((p > x7.size ∨ q > 200) ∧ r = ([], s2, true)) ∨ (p ≤ x7.size ∧ q ≤ 200 ∧ ∃ t s3 b3, encode_reader_text.f s2 b2 (q : Int) = some (t, s3, b3) ∧ t.size ≤ 200 ∧ Ev (fun k => encode_reader_dictTexts.l0 k many n (out ++ [x7.extract 0 p ++ t]) (x7.extract 0 p ++ t) s3 b3) r)) :
    Ev (fun k => encode_reader_dictTexts.l0 k many n out x7 s false) r := by
  have hb1 : Byt s1 := by have := ct_byt (bad := false) hs; rw [h1] at this; exact this
  refine Ev.step (fun k => by rw [encode_reader_dictTexts.l0]) (ev_pos h (Ev.step (fun k => by rw [encode_reader_dictTexts.j1]) (ev_pos (show (!false) = true from rfl) (Ev.bind (ct_ev false hs) ?_))))
  rw [h1]
  refine Ev.bind (ct_ev b1 hb1) ?_
  rw [h2]
  dsimp only
  rcases hr with ⟨hb, rfl⟩ | ⟨hp, hq, t, s3, b3, ht, hz, hr⟩
  · by_cases hp : p > x7.size
    · exact ev_pos (by omega) (ev_some _)
    · exact ev_neg (by omega) (ev_pos (by omega) (ev_some _))
  · refine ev_neg (by omega) (ev_neg (by omega) (ev_pos (by omega) (ev_pos (by omega) ?_)))
    rw [ht, Int.toNat_natCast]
    refine Ev.bind (ev_some _) (ev_pos ?_ (ev_pos (by show out.length < _; omega) hr))
    have : (x7.extract 0 p).size ≤ x7.size := by rw [ByteArray.size_extract]; omega
    show (x7.extract 0 p).size + t.size ≤ _
    omega
theorem dl_total {many n : Nat} (hm : many ≤ 2000) (hn : n ≤ 2000) (d : Nat) : ∀ (out : List ByteArray) (x7 : ByteArray) (s : List Int) (bad : Bool), out.length + d = n → x7.size ≤ 200 * out.length → Byt s → ∃ r : AnT, Ev (fun k => encode_reader_dictTexts.l0 k (many : Int) (n : Int) out x7 s bad) r := by
  have stop : ∀ (out : List ByteArray) (x7 : ByteArray) (s : List Int) (bad : Bool), Byt s → (bad = true ∨ out.length = n) → ∃ r : AnT, Ev (fun k => encode_reader_dictTexts.l0 k (many : Int) (n : Int) out x7 s bad) r := by
    intro out x7 s bad hs hl
    obtain ⟨r, hr⟩ := dj1_end hm hn x7 hs bad hl
    refine ⟨r, Ev.step (fun k => by rw [encode_reader_dictTexts.l0]) ?_⟩
    by_cases h : (out.length : Int) < (n : Int)
    · have hb : bad = true := hl.resolve_right (by omega)
      subst hb
      exact ev_pos h hr
    · exact ev_neg h hr
  induction d with
  | zero => intro out x7 s bad hl hx hs; exact stop out x7 s bad hs (Or.inr (by omega))
  | succ d ih =>
    intro out x7 s bad hl hx hs
    cases bad with
    | true => exact stop out x7 s true hs (Or.inl rfl)
    | false =>
      have hv1 := ct_val s false
      obtain ⟨p, hp⟩ := Int.eq_ofNat_of_zero_le hv1.1
      have hv2 := ct_val (ct s false).2.1 (ct s false).2.2
      obtain ⟨q, hq⟩ := Int.eq_ofNat_of_zero_le hv2.1
      have h1 : ct s false = ((p : Int), (ct s false).2.1, (ct s false).2.2) := by rw [← hp]
      have h2 : ct (ct s false).2.1 (ct s false).2.2 = ((q : Int), (ct (ct s false).2.1 (ct s false).2.2).2.1, (ct (ct s false).2.1 (ct s false).2.2).2.2) := by rw [← hq]
      have hb2 : Byt (ct (ct s false).2.1 (ct s false).2.2).2.1 := ct_byt (ct_byt hs)
      by_cases hbad : p > x7.size ∨ q > 200
      · exact ⟨_, dl_one hs (by omega) (by omega) (by omega) h1 h2 (Or.inl ⟨hbad, rfl⟩)⟩
      · have hb' := not_or.1 hbad
        generalize (ct (ct s false).2.1 (ct s false).2.2).2.1 = s2 at h2 hb2
        generalize (ct (ct s false).2.1 (ct s false).2.2).2.2 = b2 at h2
        have hT : ∃ t s3 b3, encode_reader_text.f s2 b2 (q : Int) = some (t, s3, b3) ∧ t.size ≤ 200 ∧ Byt s3 := by
          rw [textF]
          by_cases hg : q > s2.length
          · rw [if_pos hg]
            exact ⟨_, _, _, rfl, by rw [mk8_size]; simp, hb2⟩
          · rw [if_neg hg]
            exact ⟨_, _, _, rfl, by rw [strN_size, List.length_take]; omega, hb2.drop q⟩
        obtain ⟨t, s3, b3, ht, hz, hb3⟩ := hT
        have hsz : (x7.extract 0 p ++ t).size ≤ 200 * (out ++ [x7.extract 0 p ++ t]).length := by
          rw [ByteArray.size_append, ByteArray.size_extract, List.length_append, List.length_singleton]
          omega
        obtain ⟨r, hr⟩ := ih (out ++ [x7.extract 0 p ++ t]) (x7.extract 0 p ++ t) s3 b3 (by simp; omega) hsz hb3
        exact ⟨r, dl_one hs (by omega) (by omega) (by omega) h1 h2 (Or.inr ⟨by omega, by omega, t, s3, b3, ht, hz, hr⟩)⟩
theorem mk8_app (a b : List UInt8) : mk8 a ++ mk8 b = mk8 (a ++ b) := by
  refine ext8 ?_
  rw [mk8_data]
  simp [mk8]
theorem dl_round {many n : Nat} (hn : n ≤ 2000) (h1 : 1 ≤ n) (tl : List Int) (r : AnT) : ∀ (rest pre : List (List UInt8)) (b : List UInt8), pre.length + rest.length = n → (∀ x ∈ rest, x.length ≤ 200) → b.length ≤ 200 → Byt (preT b rest ++ tl) →
    Ev (fun k => encode_reader_dictTexts.j2 k (many : Int) (n : Int) ((pre ++ rest).map mk8) false tl false) r →
    Ev (fun k => encode_reader_dictTexts.l0 k (many : Int) (n : Int) (pre.map mk8) (mk8 b) (preT b rest ++ tl) false) r
  | [], pre, b, hl, hx, hb, hby, h => by
    have hlen : (pre.map mk8).length = pre.length := by simp
    have hl' : pre.length = n := by simpa using hl
    rw [List.append_nil] at h
    rw [show preT b ([] : List (List UInt8)) = [] by simp [preT], List.nil_append]
    exact Ev.step (fun k => by rw [encode_reader_dictTexts.l0]) (ev_neg (by omega) (Ev.step (fun k => by rw [encode_reader_dictTexts.j1]) (ev_neg (by simp) (ev_neg (by omega) h))))
  | s :: t, pre, b, hl, hx, hb, hby, h => by
    have hlen : (pre.map mk8).length = pre.length := by simp
    have hl' : pre.length + (t.length + 1) = n := hl
    have hs := hx s (List.mem_cons_self ..)
    have hc := comL_le b s
    have ht := comL_take b s
    have e : preT b (s :: t) ++ tl = cnt (comL b s) ++ (cnt (s.length - comL b s) ++ (n8 (s.drop (comL b s)) ++ (preT s t ++ tl))) := by rw [preT]; simp only [List.append_assoc]
    have hb2 : Byt (preT s t ++ tl) := fun x hx => hby x (by rw [e]; exact List.mem_append_right _ (List.mem_append_right _ (List.mem_append_right _ hx)))
    have c1 := ct_cnt (n := comL b s) (cnt (s.length - comL b s) ++ (n8 (s.drop (comL b s)) ++ (preT s t ++ tl))) (by omega)
    rw [← e] at c1
    have c2 := ct_cnt (n := s.length - comL b s) (n8 (s.drop (comL b s)) ++ (preT s t ++ tl)) (by omega)
    have hnl : (n8 (s.drop (comL b s))).length = s.length - comL b s := by rw [n8_len, List.length_drop]
    have hdn : (n8 (s.drop (comL b s))).drop (s.length - comL b s) = [] := List.drop_eq_nil_of_le (by omega)
    have hT : encode_reader_text.f (n8 (s.drop (comL b s)) ++ (preT s t ++ tl)) false ((s.length - comL b s : Nat) : Int) = some (mk8 (s.drop (comL b s)), preT s t ++ tl, false) := by
      rw [textF, if_neg (by rw [List.length_append]; omega), List.take_append_of_le_length (by omega), List.take_of_length_le (by omega), str_n8]
      rw [List.drop_append_of_le_length (by omega), hdn, List.nil_append]
    have hm : (mk8 b).extract 0 (comL b s) ++ mk8 (s.drop (comL b s)) = mk8 s := by
      rw [ext_take, mk8_app, ht, List.take_append_drop]
    refine dl_one hby (by omega) (by omega) (by rw [mk8_size]; omega) c1 c2 (Or.inr ⟨by rw [mk8_size]; omega, by omega, _, _, _, hT, by rw [mk8_size, List.length_drop]; omega, ?_⟩)
    rw [hm]
    have := dl_round hn h1 tl r t (pre ++ [s]) s (by simp; omega) (fun x hx' => hx x (List.mem_cons_of_mem _ hx')) hs hb2 (by rw [List.append_assoc]; exact h)
    rw [List.map_append] at this
    exact this
theorem dT_total {many : Nat} (hm : many ≤ 2000) {s : List Int} (hs : Byt s) (bad : Bool) : ∃ r : AnT, Ev (fun k => encode_reader_dictTexts.f k s bad (many : Int)) r := by
  have hlv := lt_val s bad
  obtain ⟨n, hn⟩ := Int.eq_ofNat_of_zero_le hlv.1
  obtain ⟨r, hr⟩ := dl_total hm (n := n) (by omega) n [] (mk8 []) (lt_ s bad).2.1 (lt_ s bad).2.2 (by simp) (by rw [mk8_size]; simp) (lt_byt hs)
  refine ⟨r, ?_⟩
  unfold encode_reader_dictTexts.f
  refine Ev.bind (lt_ev bad hs) ?_
  rw [hn]
  exact hr
theorem dT_round {l : List ByteArray} (h : OkT l) (hne : l ≠ []) : Ev (fun k => encode_reader_dictTexts.f k (dicT l) false (l.length : Int)) (l, [], false) := by
  have hn := h.1
  have hs := dsT_sorted l
  have hd := dsT_len l
  have hp := dsT_ne hne
  have hD := dsT_size h
  have hby := dicT_byt l
  have e : dicT l = cnt (dsT l).length ++ (preT [] (dsT l) ++ pb (allbits (plsT l) (Lib.bitLen ((dsT l).length - 1)))) := by unfold dicT; rw [List.append_assoc]
  have hb2 : Byt (preT [] (dsT l) ++ pb (allbits (plsT l) (Lib.bitLen ((dsT l).length - 1)))) := fun x hx => hby x (by rw [e]; exact List.mem_append_right _ hx)
  have hlt := lt_cnt (n := (dsT l).length) (preT [] (dsT l) ++ pb (allbits (plsT l) (Lib.bitLen ((dsT l).length - 1)))) (by omega)
  rw [← e] at hlt
  have hbl := bitLen_lt' ((dsT l).length - 1) (by omega)
  have hplr : ∀ v ∈ plsT l, 0 ≤ v ∧ v < 2 ^ Lib.bitLen ((dsT l).length - 1) := by
    intro v hv
    have h1 := plsT_range v hv
    have h2 : (((dsT l).length - 1 : Nat) : Int) < (2 : Int) ^ Lib.bitLen ((dsT l).length - 1) := by exact_mod_cast hbl
    exact ⟨h1.1, by omega⟩
  have hups := ups_pb hplr
  rw [plsT_len] at hups
  unfold encode_reader_dictTexts.f
  refine Ev.bind (lt_ev false hby) ?_
  rw [hlt]
  have := (j2_ok (many := l.length) hn (n := (dsT l).length) (by omega) (by omega) (D := (dsT l).map mk8) (s := pb (allbits (plsT l) (Lib.bitLen ((dsT l).length - 1)))) (fun x hx => hb2 x (List.mem_append_right _ hx)) (by simp) false).2 (by rw [pb_len, allbits_len, plsT_len]) ?_
  · rw [hups] at this
    have hmap : (plsT l).map (rdOf ByteArray.empty ((dsT l).map mk8)) = l := by
      unfold plsT
      rw [List.map_map]
      have : ∀ s ∈ l, (rdOf ByteArray.empty ((dsT l).map mk8) ∘ fun s : ByteArray => (plT (dsT l) s.data.toList : Int)) s = s := by
        intro s hs'
        simp only [Function.comp]
        rw [rdTm, plT_get ((hs.2 _).2 (List.mem_map.2 ⟨s, hs', rfl⟩)), mk8_of]
      rw [List.map_congr_left this]
      simp
    rw [hmap] at this
    have hr := dl_round (many := l.length) (n := (dsT l).length) (by omega) (by omega) (pb (allbits (plsT l) (Lib.bitLen ((dsT l).length - 1)))) (l, [], false) (dsT l) [] [] (by simp) hD (by simp) hb2 (by simpa using this)
    exact hr
  · rw [hups]
    exact fun q hq => (plsT_range q hq).2

/-! ### decode -/
/-- What decodeTexts may answer. -/
def DTok (b : List Int) (r : List ByteArray × Bool) : Prop := r = ([], false) ∨ ∃ c l, (c = 1 ∨ c = 3) ∧ OkT l ∧ encT c l = b ∧ r = (l, true)
theorem j4_bad (b : List Int) (c : Int) (o : List ByteArray) (s : List Int) : Ev (fun k => encode_decodeTexts.j4 k b c o s true) ([], false) :=
  Ev.step (fun k => by rw [encode_decodeTexts.j4]) (ev_pos rfl (ev_some _))
theorem j4_ok {b : List Int} (hb : Byt b) {c : Nat} (hc : c = 1 ∨ c = 3) (o : List ByteArray) (s : List Int) : Ev (fun k => encode_decodeTexts.j4 k b (c : Int) o s false) (if chkT o = 0 ∧ encT c o = b then (o, true) else ([], false)) := by
  refine Ev.step (fun k => by rw [encode_decodeTexts.j4]) (ev_neg (by simp) (Ev.bind (checkT_ev o) ?_))
  by_cases h0 : chkT o = 0
  · have ho := chkT_ok.1 h0
    refine ev_pos h0 (Ev.bind (encodeT_ev hc ho) ?_)
    rw [bytesEqual_eq (encT_byt (by omega) o) hb]
    refine Ev.bind (ev_some _) ?_
    by_cases he : encT c o = b
    · rw [show (if chkT o = 0 ∧ encT c o = b then (o, true) else (([] : List ByteArray), false)) = (o, true) from if_pos ⟨h0, he⟩]
      exact ev_pos (by simpa using he) (ev_some _)
    · rw [show (if chkT o = 0 ∧ encT c o = b then (o, true) else (([] : List ByteArray), false)) = ([], false) from if_neg (fun h => he h.2)]
      exact ev_neg (by simpa using he) (ev_some _)
  · rw [if_neg (fun h => h0 h.1)]
    exact ev_neg h0 (ev_some _)
theorem j4_any {b : List Int} (hb : Byt b) {c : Nat} (hc : c = 1 ∨ c = 3) (o : List ByteArray) (s : List Int) (bad : Bool) : ∃ r, Ev (fun k => encode_decodeTexts.j4 k b (c : Int) o s bad) r ∧ DTok b r := by
  cases bad with
  | true => exact ⟨_, j4_bad b c o s, Or.inl rfl⟩
  | false =>
    refine ⟨_, j4_ok hb hc o s, ?_⟩
    by_cases h : chkT o = 0 ∧ encT c o = b
    · rw [if_pos h]; exact Or.inr ⟨c, o, hc, chkT_ok.1 h.1, h.2, rfl⟩
    · rw [if_neg h]; exact Or.inl rfl
theorem pl_total {b : List Int} (hb : Byt b) {c : Nat} (hc : c = 1 ∨ c = 3) {many : Nat} (hm : many ≤ 2000) (d : Nat) : ∀ (out : List ByteArray) (s : List Int) (bad : Bool), out.length ≤ many → many - out.length ≤ d → Byt s → ∃ r, Ev (fun k => encode_decodeTexts.l0 k b (c : Int) (many : Int) out s bad) r ∧ DTok b r := by
  have stop : ∀ (out : List ByteArray) (s : List Int) (bad : Bool), (bad = true ∨ ¬ (out.length : Int) < (many : Int)) → ∃ r, Ev (fun k => encode_decodeTexts.l0 k b (c : Int) (many : Int) out s bad) r ∧ DTok b r := by
    intro out s bad hl
    obtain ⟨r, hr, ho⟩ := j4_any hb hc out s bad
    have hj : Ev (fun k => encode_decodeTexts.j3 k b (c : Int) (many : Int) out false s bad) r := Ev.step (fun k => by rw [encode_decodeTexts.j3]) (ev_neg (by simp) hr)
    refine ⟨r, Ev.step (fun k => by rw [encode_decodeTexts.l0]) ?_, ho⟩
    by_cases h : (out.length : Int) < (many : Int)
    · have hb' : bad = true := hl.resolve_right (fun h' => h' h)
      subst hb'
      exact ev_pos h hj
    · exact ev_neg h hj
  induction d with
  | zero => intro out s bad ho hd hs; exact stop out s bad (Or.inr (by omega))
  | succ d ih =>
    intro out s bad ho hd hs
    cases bad with
    | true => exact stop out s true (Or.inl rfl)
    | false =>
      by_cases hlt : (out.length : Int) < (many : Int)
      · have hv := ct_val s false
        obtain ⟨n, hn⟩ := Int.eq_ofNat_of_zero_le hv.1
        have hby := ct_byt (bad := false) hs
        have hT : ∃ t s3 b3, encode_reader_text.f (ct s false).2.1 (ct s false).2.2 (ct s false).1 = some (t, s3, b3) ∧ Byt s3 := by
          rw [hn, textF]
          by_cases hg : n > (ct s false).2.1.length
          · rw [if_pos hg]; exact ⟨_, _, _, rfl, hby⟩
          · rw [if_neg hg]; exact ⟨_, _, _, rfl, hby.drop n⟩
        obtain ⟨t, s3, b3, ht, hb3⟩ := hT
        obtain ⟨r, hr, hd'⟩ := ih (out ++ [t]) s3 b3 (by simp; omega) (by simp; omega) hb3
        refine ⟨r, Ev.step (fun k => by rw [encode_decodeTexts.l0]) (ev_pos hlt (Ev.step (fun k => by rw [encode_decodeTexts.j3]) (ev_pos (show (!false) = true from rfl) (Ev.bind (ct_ev false hs) ?_)))), hd'⟩
        rw [ht]
        exact Ev.bind (ev_some _) (ev_pos (show out.length < 8796093022208 by omega) hr)
      · exact stop out s false (Or.inr hlt)
theorem pl_round {b : List Int} (r : List ByteArray × Bool) : ∀ (rest pre : List ByteArray), pre.length + rest.length ≤ 2000 → (∀ s ∈ rest, s.size ≤ 200) →
    Ev (fun k => encode_decodeTexts.j4 k b 1 (pre ++ rest) [] false) r →
    Ev (fun k => encode_decodeTexts.l0 k b 1 ((pre.length + rest.length : Nat) : Int) pre (txs rest) false) r
  | [], pre, hl, hs, h => by
    rw [List.append_nil] at h
    rw [show txs ([] : List ByteArray) = [] from rfl]
    exact Ev.step (fun k => by rw [encode_decodeTexts.l0]) (ev_neg (by simp) (Ev.step (fun k => by rw [encode_decodeTexts.j3]) (ev_neg (by simp) h)))
  | s :: t, pre, hl, hs, h => by
    have hz := hs s (List.mem_cons_self ..)
    have hl' : pre.length + (t.length + 1) ≤ 2000 := hl
    have e : txs (s :: t) = cnt s.size ++ (n8 s.data.toList ++ txs t) := by simp [txs, List.append_assoc, n8_of]
    have hby := txs_byt (s :: t)
    have c1 := ct_cnt (n := s.size) (n8 s.data.toList ++ txs t) (by omega)
    rw [← e] at c1
    have hnl : (n8 s.data.toList).length = s.size := by rw [n8_len, size8]
    have hT : encode_reader_text.f (n8 s.data.toList ++ txs t) false ((s.size : Nat) : Int) = some (s, txs t, false) := by
      rw [textF, if_neg (by rw [List.length_append]; omega), List.take_append_of_le_length (by omega), List.take_of_length_le (by omega), str_n8, mk8_of]
      rw [List.drop_append_of_le_length (by omega), List.drop_eq_nil_of_le (by omega), List.nil_append]
    have ih := pl_round r t (pre ++ [s]) (by simp; omega) (fun x hx => hs x (List.mem_cons_of_mem _ hx)) (by rw [List.append_assoc]; exact h)
    rw [List.length_append, List.length_singleton, show pre.length + 1 + t.length = pre.length + (t.length + 1) by omega] at ih
    refine Ev.step (fun k => by rw [encode_decodeTexts.l0]) (ev_pos (by simp; omega) (Ev.step (fun k => by rw [encode_decodeTexts.j3]) (ev_pos (show (!false) = true from rfl) (Ev.bind (ct_ev false hby) ?_))))
    rw [c1]
    dsimp only
    rw [hT]
    exact Ev.bind (ev_some _) (ev_pos (show pre.length < 8796093022208 by omega) ih)
theorem decT_total {b : List Int} (hb : Byt b) : ∃ r, Ev (fun k => encode_decodeTexts.f k b) r ∧ DTok b r := by
  have ht := tail_byt hb
  have hbyte := byteB b false hb
  have hlv := lt_val b.tail (false || b.isEmpty)
  obtain ⟨many, hmany⟩ := Int.eq_ofNat_of_zero_le hlv.1
  have head : ∀ r, Ev (fun k => if b.headD 0 = 1 then (encode_decodeTexts.j0 k b (b.headD 0) (lt_ b.tail (false || b.isEmpty)).1 false (lt_ b.tail (false || b.isEmpty)).2.1 (lt_ b.tail (false || b.isEmpty)).2.2) else (encode_decodeTexts.j0 k b (b.headD 0) (lt_ b.tail (false || b.isEmpty)).1 (b.headD 0 != 3) (lt_ b.tail (false || b.isEmpty)).2.1 (lt_ b.tail (false || b.isEmpty)).2.2)) r → Ev (fun k => encode_decodeTexts.f k b) r := by
    intro r h
    unfold encode_decodeTexts.f
    rw [hbyte]
    exact Ev.bind (ev_some _) (Ev.bind (lt_ev _ ht) h)
  have j0 : ∀ c : Nat, (c = 1 ∨ c = 3) → b.headD 0 = (c : Int) → ∃ r, Ev (fun k => encode_decodeTexts.j0 k b (b.headD 0) (lt_ b.tail (false || b.isEmpty)).1 false (lt_ b.tail (false || b.isEmpty)).2.1 (lt_ b.tail (false || b.isEmpty)).2.2) r ∧ DTok b r := by
    intro c hc hcc
    have hby : Byt (lt_ b.tail (false || b.isEmpty)).2.1 := lt_byt (bad := (false || b.isEmpty)) ht
    rw [hcc]
    by_cases h0 : (lt_ b.tail (false || b.isEmpty)).1 = 0
    · obtain ⟨r, hr, ho⟩ := j4_any hb hc [] (lt_ b.tail (false || b.isEmpty)).2.1 (lt_ b.tail (false || b.isEmpty)).2.2
      exact ⟨r, Ev.step (fun k => by rw [encode_decodeTexts.j0]) (ev_neg (by simp) (ev_pos h0 (Ev.step (fun k => by rw [encode_decodeTexts.j1]) (ev_pos rfl hr)))), ho⟩
    · cases hbad : (lt_ b.tail (false || b.isEmpty)).2.2 with
      | true =>
        obtain ⟨r, hr, ho⟩ := j4_any hb hc [] (lt_ b.tail (false || b.isEmpty)).2.1 true
        exact ⟨r, Ev.step (fun k => by rw [encode_decodeTexts.j0]) (ev_neg (by simp) (ev_neg h0 (Ev.step (fun k => by rw [encode_decodeTexts.j1]) (ev_pos rfl hr)))), ho⟩
      | false =>
        have hj1 : ∃ r, Ev (fun k => encode_decodeTexts.j1 k b (c : Int) (lt_ b.tail (false || b.isEmpty)).1 [] false (lt_ b.tail (false || b.isEmpty)).2.1 false) r ∧ DTok b r := by
          rw [hmany]
          by_cases h3 : c = 3
          · obtain ⟨v, hv⟩ := dT_total (many := many) (by omega) hby false
            obtain ⟨r, hr, ho⟩ := j4_any hb hc v.1 v.2.1 v.2.2
            exact ⟨r, Ev.step (fun k => by rw [encode_decodeTexts.j1]) (ev_neg (by simp) (ev_pos (by omega) (Ev.bind hv hr))), ho⟩
          · obtain ⟨r, hr, ho⟩ := pl_total hb hc (many := many) (by omega) many [] (lt_ b.tail (false || b.isEmpty)).2.1 false (by simp) (by simp) hby
            exact ⟨r, Ev.step (fun k => by rw [encode_decodeTexts.j1]) (ev_neg (by simp) (ev_neg (by omega) hr)), ho⟩
        obtain ⟨r, hr, ho⟩ := hj1
        exact ⟨r, Ev.step (fun k => by rw [encode_decodeTexts.j0]) (ev_neg (by simp) (ev_neg h0 hr)), ho⟩
  by_cases h1 : b.headD 0 = 1
  · obtain ⟨r, hr, ho⟩ := j0 1 (Or.inl rfl) (by omega)
    exact ⟨r, head r (ev_pos h1 hr), ho⟩
  · by_cases h3 : b.headD 0 = 3
    · obtain ⟨r, hr, ho⟩ := j0 3 (Or.inr rfl) (by omega)
      refine ⟨r, head r (ev_neg h1 ?_), ho⟩
      rw [show (b.headD 0 != 3) = false by simpa using h3]
      exact hr
    · refine ⟨([], false), head _ (ev_neg h1 ?_), Or.inl rfl⟩
      rw [show (b.headD 0 != 3) = true by simpa using h3]
      exact Ev.step (fun k => by rw [encode_decodeTexts.j0]) (ev_pos rfl (ev_some _))
theorem decT_round {c : Nat} (hc : c = 1 ∨ c = 3) {l : List ByteArray} (h : OkT l) : Ev (fun k => encode_decodeTexts.f k (encT c l)) (l, true) := by
  have hb := encT_byt (c := c) (by omega) l
  have hn := h.1
  have htl : (encT c l).tail = cnt l.length ++ (if l = [] then [] else if c = 1 then txs l else dicT l) := by simp [encT]
  have hhd : (encT c l).headD 0 = (c : Int) := by simp [encT]
  have hem : (encT c l).isEmpty = false := by simp [encT]
  have ht : Byt (cnt l.length ++ (if l = [] then [] else if c = 1 then txs l else dicT l)) := by rw [← htl]; exact tail_byt hb
  have hlt := lt_cnt (n := l.length) (if l = [] then [] else if c = 1 then txs l else dicT l) hn
  have fin : ∀ s, Ev (fun k => encode_decodeTexts.j4 k (encT c l) (c : Int) l s false) (l, true) := by
    intro s
    have := j4_ok hb hc l s
    rwa [if_pos ⟨chkT_ok.2 h, rfl⟩] at this
  have j0 : Ev (fun k => encode_decodeTexts.j0 k (encT c l) (c : Int) (l.length : Int) false (if l = [] then [] else if c = 1 then txs l else dicT l) false) (l, true) := by
    refine Ev.step (fun k => by rw [encode_decodeTexts.j0]) (ev_neg (by simp) ?_)
    by_cases hz : l = []
    · have hf := fin (if l = [] then [] else if c = 1 then txs l else dicT l)
      refine ev_pos (by rw [hz]; rfl) (Ev.step (fun k => by rw [encode_decodeTexts.j1]) (ev_pos rfl ?_))
      rw [hz] at hf ⊢
      exact hf
    · have hp := List.length_pos_iff.2 hz
      rw [if_neg hz]
      refine ev_neg (by omega) (Ev.step (fun k => by rw [encode_decodeTexts.j1]) (ev_neg (by simp) ?_))
      rcases hc with rfl | rfl
      · refine ev_neg (by omega) ?_
        have := pl_round (b := encT 1 l) (l, true) l [] (by simpa using hn) (fun s hs => cv_size (h.2 s hs)) (by simpa using fin [])
        simpa using this
      · refine ev_pos rfl ?_
        rw [if_neg (by omega)]
        exact Ev.bind (dT_round h hz) (fin [])
  unfold encode_decodeTexts.f
  rw [byteB _ false hb, htl, hhd, hem]
  refine Ev.bind (ev_some _) (Ev.bind (lt_ev _ ht) ?_)
  rw [show (false || false) = false from rfl, hlt]
  dsimp only
  rcases hc with rfl | rfl
  · exact ev_pos rfl j0
  · exact ev_neg (by omega) j0
def DecAT (b : List Int) (r : List ByteArray × Int) : Prop := (r = ([], 2) ∨ r = ([], 3)) ∨ ∃ c l, (c = 1 ∨ c = 3) ∧ OkT l ∧ encT c l = b ∧ r = (l, 0)
theorem DecodeT_total {b : List Int} (hb : Byt b) : ∃ r, Ev (fun k => encode_DecodeTexts.f k b) r ∧ DecAT b r := by
  by_cases hl : b.length > 500000
  · exact ⟨([], 2), by unfold encode_DecodeTexts.f; exact ev_pos (by omega) (ev_some _), Or.inl (Or.inl rfl)⟩
  · obtain ⟨r, hr, ho⟩ := decT_total hb
    rcases ho with rfl | ⟨c, l, hc, h, he, rfl⟩
    · exact ⟨([], 3), by unfold encode_DecodeTexts.f; exact ev_neg (by omega) (Ev.bind hr (ev_neg (by simp) (ev_some _))), Or.inl (Or.inr rfl)⟩
    · exact ⟨(l, 0), by unfold encode_DecodeTexts.f; exact ev_neg (by omega) (Ev.bind hr (ev_pos rfl (ev_some _))), Or.inr ⟨c, l, hc, h, he, rfl⟩⟩
theorem DecodeT_round {c : Nat} (hc : c = 1 ∨ c = 3) {l : List ByteArray} (h : OkT l) : Ev (fun k => encode_DecodeTexts.f k (encT c l)) (l, 0) := by
  have hl := encT_len (c := c) h
  unfold encode_DecodeTexts.f
  exact ev_neg (by omega) (Ev.bind (decT_round hc h) (ev_pos rfl (ev_some _)))

/-! ### encode, at, where -/
def encTA (c : Int) (l : List ByteArray) : List Int × Int := if c = 1 ∨ c = 3 then (if chkT l = 0 then (encT c.toNat l, 0) else ([], chkT l)) else ([], 4)
theorem EncodeT_ev (c : Int) (l : List ByteArray) : Ev (fun k => encode_EncodeTexts.f k c l) (encTA c l) := by
  have j0 : (c = 1 ∨ c = 3) → Ev (fun k => encode_EncodeTexts.j0 k c l false) (encTA c l) := by
    intro hc
    have e : encTA c l = (if chkT l = 0 then (encT c.toNat l, 0) else ([], chkT l)) := if_pos hc
    refine Ev.step (fun k => by rw [encode_EncodeTexts.j0]) (ev_neg (by simp) (Ev.bind (checkT_ev l) ?_))
    by_cases h0 : chkT l = 0
    · rw [if_pos h0] at e
      have hE := encodeT_ev (c := c.toNat) (by omega) (chkT_ok.1 h0)
      rw [show ((c.toNat : Nat) : Int) = c by omega] at hE
      exact ev_pos h0 (Ev.bind hE (ev_eq (ev_some _) e.symm))
    · rw [if_neg h0] at e
      exact ev_neg h0 (ev_eq (ev_some _) e.symm)
  unfold encode_EncodeTexts.f
  by_cases h1 : c = 1
  · exact ev_pos h1 (j0 (Or.inl h1))
  · refine ev_neg h1 ?_
    by_cases h3 : c = 3
    · rw [show (c != 3) = false by simpa using h3]
      exact j0 (Or.inr h3)
    · rw [show (c != 3) = true by simpa using h3]
      exact Ev.step (fun k => by rw [encode_EncodeTexts.j0]) (ev_pos rfl (ev_eq (ev_some _) (if_neg (by omega)).symm))
theorem TextAt_ev {c : Nat} (hc : c = 1 ∨ c = 3) {l : List ByteArray} (h : OkT l) {i : Nat} (hi : i < l.length) : Ev (fun k => encode_TextAt.f k (encT c l) (i : Int)) (l.getD i ByteArray.empty, 0) := by
  have hn := h.1
  unfold encode_TextAt.f
  refine Ev.bind (DecodeT_round hc h) (ev_pos rfl ?_)
  dsimp only
  rw [w64 (n := (l.length : Int) - 1) (by omega) (by omega), in_eq, rdTe]
  exact Ev.bind (ev_some _) (ev_pos (by simp; omega) (ev_pos (by omega) (ev_pos (by omega) (ev_some _))))
/-- A text lies between. -/
def btw (lo hi s : ByteArray) : Bool := !(Op.bytesLess s.toList lo.toList) && !(Op.bytesLess hi.toList s.toList)
def whT (lo hi : ByteArray) (l : List ByteArray) (n : Nat) : List Int := ((List.range n).filter fun i => btw lo hi (l.getD i ByteArray.empty)).map (fun i : Nat => (i : Int))
theorem whT_succ (lo hi : ByteArray) (l : List ByteArray) (n : Nat) : whT lo hi l (n + 1) = whT lo hi l n ++ (if btw lo hi (l.getD n ByteArray.empty) = true then [(n : Int)] else []) := by
  unfold whT
  rw [List.range_succ, List.filter_append, List.map_append]
  congr 1
  by_cases h : btw lo hi (l.getD n ByteArray.empty) = true
  · rw [if_pos h, List.filter_cons, if_pos h]; rfl
  · rw [if_neg h, List.filter_cons, if_neg h]; rfl
theorem whT_len (lo hi : ByteArray) (l : List ByteArray) (n : Nat) : (whT lo hi l n).length ≤ n := by
  unfold whT
  rw [List.length_map]
  exact Nat.le_trans (List.length_filter_le _ _) (by simp)
theorem whT_mem (lo hi : ByteArray) (l : List ByteArray) (n i : Nat) (hi' : i < n) : (i : Int) ∈ whT lo hi l n ↔ btw lo hi (l.getD i ByteArray.empty) = true := by
  unfold whT
  rw [List.mem_map]
  constructor
  · rintro ⟨j, hj, e⟩
    obtain rfl : j = i := by omega
    exact (List.mem_filter.1 hj).2
  · intro h
    exact ⟨i, List.mem_filter.2 ⟨List.mem_range.2 hi', h⟩, rfl⟩
theorem whT_sorted (lo hi : ByteArray) (l : List ByteArray) (n : Nat) : (whT lo hi l n).Pairwise (· < ·) := by
  unfold whT
  rw [List.pairwise_map]
  exact (List.pairwise_lt_range.filter _).imp (fun h => by omega)
theorem WhereT_ev {c : Nat} (hc : c = 1 ∨ c = 3) {l : List ByteArray} (h : OkT l) (lo hi : ByteArray) : Ev (fun k => encode_WhereText.f k (encT c l) lo hi) (if Op.bytesLess hi.toList lo.toList = true then ([], 8) else (whT lo hi l l.length, 0)) := by
  have hn := h.1
  unfold encode_WhereText.f
  refine Ev.bind (DecodeT_round hc h) (ev_pos rfl ?_)
  dsimp only
  by_cases hlh : Op.bytesLess hi.toList lo.toList = true
  · exact ev_eq (ev_pos hlh (ev_some _)) (if_pos hlh).symm
  · rw [show (if Op.bytesLess hi.toList lo.toList = true then (([] : List Int), (8 : Int)) else (whT lo hi l l.length, 0)) = (whT lo hi l l.length, 0) from if_neg hlh]
    refine ev_neg hlh ?_
    have key : ∀ d i, i ≤ l.length → l.length - i ≤ d → Ev (fun k => encode_WhereText.l0 k lo hi l (whT lo hi l i) (l.length : Int) (i : Int)) (whT lo hi l l.length, 0) := by
      intro d
      induction d with
      | zero =>
        intro i hi' hd
        refine Ev.step (fun k => by rw [encode_WhereText.l0]) (ev_neg (by omega) ?_)
        rw [show i = l.length by omega]
        exact ev_some _
      | succ d ih =>
        intro i hi' hd
        refine Ev.step (fun k => by rw [encode_WhereText.l0]) ?_
        by_cases hlt : i < l.length
        · have hw := whT_len lo hi l i
          have hs := whT_succ lo hi l i
          have hih := ih (i + 1) (by omega) (by omega)
          refine ev_pos (by omega) (ev_pos (by omega) (ev_pos (by omega) ?_))
          rw [rdTe, w64 (by omega) (by omega)]
          by_cases h1 : Op.bytesLess (l.getD i ByteArray.empty).toList lo.toList = true
          · rw [if_neg (by unfold btw; rw [h1]; simp), List.append_nil] at hs
            rw [hs] at hih
            exact ev_pos h1 hih
          · by_cases h2 : Op.bytesLess hi.toList (l.getD i ByteArray.empty).toList = true
            · rw [if_neg (by unfold btw; rw [h2]; simp), List.append_nil] at hs
              rw [hs] at hih
              exact ev_neg h1 (ev_pos h2 hih)
            · rw [if_pos (by unfold btw; rw [eq_false_of_ne_true h1, eq_false_of_ne_true h2]; rfl)] at hs
              rw [hs] at hih
              exact ev_neg h1 (ev_neg h2 (ev_pos (by omega) hih))
        · refine ev_neg (by omega) ?_
          rw [show i = l.length by omega]
          exact ev_some _
    have := key l.length 0 (by omega) (by omega)
    simpa [whT] using this
theorem eqT_refl {l : List ByteArray} (hl : l.length ≤ 100000) : Ev (fun k => slices_Equal_string_string.f k l l) true := by
  have key : ∀ d i : Nat, i ≤ l.length → l.length - i ≤ d → Ev (fun k => slices_Equal_string_string.l0 k l l (l.length : Int) (i : Int)) true := by
    intro d
    induction d with
    | zero => intro i hi hd; exact Ev.step (fun k => by rw [slices_Equal_string_string.l0]) (ev_neg (by omega) (ev_some _))
    | succ d ih =>
      intro i hi hd
      refine Ev.step (fun k => by rw [slices_Equal_string_string.l0]) ?_
      by_cases hlt : i < l.length
      · refine ev_pos (by omega) (ev_pos (by omega) (ev_pos (by omega) (ev_pos (by omega) (ev_pos rfl ?_))))
        rw [w64 (by omega) (by omega)]
        exact ih (i + 1) (by omega) (by omega)
      · exact ev_neg (by omega) (ev_some _)
  unfold slices_Equal_string_string.f
  exact ev_pos rfl (key _ 0 (by omega) (Nat.le_refl _))

/-! ### the law -/
theorem byt_of_wf {l : List Int} (h : ∀ x ∈ l, (fun n : Int => (Lit.int .u8 n).wf = true) x) : Byt l := by
  intro n hn
  have a : IntKind.u8.min = 0 := by decide
  have b : IntKind.u8.max = 255 := by decide
  have := h n hn
  simp [Lit.wf] at this
  omega
theorem back_j2 {b : List Int} (hb : Byt b) : Ev (fun k => peristylelaw2_EncodeTextsComeBack.j2 k b) true := by
  obtain ⟨r, hr, ho⟩ := DecodeT_total hb
  refine Ev.step (fun k => by rw [peristylelaw2_EncodeTextsComeBack.j2]) (Ev.bind hr ?_)
  rcases ho with (rfl | rfl) | ⟨c, l, hc, h, rfl, rfl⟩
  · exact ev_neg (by simp) (ev_pos rfl (Ev.bind awake_e (ev_some _)))
  · exact ev_neg (by simp) (ev_pos rfl (Ev.bind awake_e (ev_some _)))
  · have hl := encT_len (c := c) h
    have hr0 : rd (encT c l) 0 = (c : Int) := by simp [rd, encT]
    have he : encTA (c : Int) l = (encT c l, 0) := by
      unfold encTA
      rw [if_pos (by omega), if_pos (chkT_ok.2 h), Int.toNat_natCast]
    refine ev_pos rfl (ev_pos (by simp [encT]; omega) ?_)
    rw [hr0, w64 (by omega) (by omega)]
    refine Ev.bind (EncodeT_ev _ _) ?_
    dsimp only
    rw [he]
    exact ev_pos rfl (Ev.bind (eqB_ev (by show (encT c l).length ≤ _; omega)) (ev_pos (show decide (encT c l = encT c l) = true by simp) (Ev.bind awake_e (ev_some _))))
theorem back_l0 {c : Nat} (hc : c = 1 ∨ c = 3) {l : List ByteArray} (h : OkT l) {b : List Int} (hb : Byt b) (lo hi : ByteArray) (w : List Int) (hw : Op.bytesLess hi.toList lo.toList = true ∨ w = whT lo hi l l.length) (d : Nat) : ∀ i : Nat, i ≤ l.length → l.length - i ≤ d →
    Ev (fun k => peristylelaw2_EncodeTextsComeBack.l0 k b lo hi (encT c l) w l (l.length : Int) (i : Int)) true := by
  have hn := h.1
  induction d with
  | zero => intro i hi' hd; exact Ev.step (fun k => by rw [peristylelaw2_EncodeTextsComeBack.l0]) (ev_neg (by omega) (back_j2 hb))
  | succ d ih =>
    intro i hi' hd
    refine Ev.step (fun k => by rw [peristylelaw2_EncodeTextsComeBack.l0]) ?_
    by_cases hlt : i < l.length
    · have hih := ih (i + 1) (by omega) (by omega)
      rw [rdTe, w64 (by omega) (by omega)]
      refine ev_pos (by omega) (ev_pos (by omega) (ev_pos (by omega) (Ev.bind (TextAt_ev hc h hlt) (ev_pos rfl (ev_pos rfl ?_)))))
      by_cases hlh : Op.bytesLess hi.toList lo.toList = true
      · exact ev_pos hlh hih
      · obtain rfl := hw.resolve_left hlh
        have hwl := whT_len lo hi l l.length
        have hm := whT_mem lo hi l l.length i hlt
        refine ev_neg hlh (Ev.bind (contains_ev (whT_sorted lo hi l l.length) (by omega) (i : Int)) ?_)
        have hmem : decide ((i : Int) ∈ whT lo hi l l.length) = btw lo hi (l.getD i ByteArray.empty) := by
          cases hbt : btw lo hi (l.getD i ByteArray.empty) with
          | true => exact decide_eq_true (hm.2 hbt)
          | false => exact decide_eq_false (fun h' => by rw [hm.1 h'] at hbt; cases hbt)
        rw [hmem]
        by_cases h1 : Op.bytesLess (l.getD i ByteArray.empty).toList lo.toList = true
        · exact ev_pos h1 (ev_neg (by unfold btw; rw [h1]; simp) hih)
        · refine ev_neg h1 (ev_neg ?_ hih)
          unfold btw
          rw [eq_false_of_ne_true h1]
          simp
    · exact ev_neg (by omega) (back_j2 hb)
theorem back_ev (c : Int) (l : List ByteArray) {b : List Int} (hb : Byt b) (lo hi : ByteArray) : Ev (fun k => peristylelaw2_EncodeTextsComeBack.f k c l b lo hi) true := by
  unfold peristylelaw2_EncodeTextsComeBack.f
  refine Ev.bind (EncodeT_ev c l) ?_
  by_cases hc : c = 1 ∨ c = 3
  · by_cases h0 : chkT l = 0
    · have h := chkT_ok.1 h0
      have hn := h.1
      have hc' : c.toNat = 1 ∨ c.toNat = 3 := by omega
      rw [show encTA c l = (encT c.toNat l, 0) by unfold encTA; rw [if_pos hc, if_pos h0]]
      refine ev_pos rfl (Ev.bind (DecodeT_round hc' h) (ev_pos rfl (Ev.bind (eqT_refl (l := l) (by omega)) ?_)))
      refine Ev.step (fun k => by rw [peristylelaw2_EncodeTextsComeBack.j0]) (ev_neg (by simp) (Ev.bind (WhereT_ev hc' h lo hi) ?_))
      by_cases hlh : Op.bytesLess hi.toList lo.toList = true
      · rw [if_pos hlh]
        exact ev_neg (by rw [hlh]; simp) (back_l0 hc' h hb lo hi _ (Or.inl hlh) _ 0 (by omega) (Nat.le_refl _))
      · rw [if_neg hlh]
        exact ev_neg (by rw [eq_false_of_ne_true hlh]; simp) (back_l0 hc' h hb lo hi _ (Or.inr rfl) _ 0 (by omega) (Nat.le_refl _))
    · rw [show encTA c l = ([], chkT l) by unfold encTA; rw [if_pos hc, if_neg h0]]
      exact ev_neg h0 (back_j2 hb)
  · rw [show encTA c l = ([], 4) by unfold encTA; rw [if_neg hc]]
    exact ev_neg (by simp) (back_j2 hb)
theorem back_pure (c : Int) (l : List ByteArray) (b : List Int) (lo hi : ByteArray) (hc : (Lit.int .i64 c).wf = true) (h0 : l.length ≤ maxLen ∧ ∀ x ∈ l, (fun s : ByteArray => s.size ≤ maxLen) x) (h1 : b.length ≤ maxLen ∧ ∀ x ∈ b, (fun n : Int => (Lit.int .u8 n).wf = true) x) (y1 : b.length * 1 ≤ 140737488351232) (g0 : lo.size ≤ 140737488351232) (g1 : hi.size ≤ 140737488351232) : ∃ k, peristylelaw2_EncodeTextsComeBack.f k c l b lo hi = some true := by
  obtain ⟨K, h⟩ := back_ev c l (byt_of_wf h1.2) lo hi
  exact ⟨K, h K (Nat.le_refl _)⟩
end Go.Proofs.Ythhdihnaicggiaa.C
