/- Decode, in plain Lean: it answers just with values that are encoded so; and the law that what is encoded comes back. No conditions beyond those in each theorem. -/
import Derived.Test.YthhdihnaicggiaaJMB
namespace Go.Proofs.Ythhdihnaicggiaa.J
open Go.RowKit Go.Proofs.YthhdihnaicggiaaW.PrintWords Go.Proofs.YthhdihnaicggiaaW.PrintLast Go.Proofs.YthhdihnaicggiaaW.PrintMore
set_option linter.unusedVariables false
set_option linter.unusedSimpArgs false

/-! ### what is encoded are bytes -/
theorem Byt.app {a b : List Int} (ha : Byt a) (hb : Byt b) : Byt (a ++ b) := fun x hx => (List.mem_append.1 hx).elim (ha x) (hb x)
theorem nums_byt (l : List Int) : Byt (nums l) := fun x hx => by
  obtain ⟨v, _, h⟩ := List.mem_flatMap.1 hx
  exact num_byte v x h
theorem rle_byt (n : Nat) : ∀ l : List Int, l.length ≤ n → Byt (rle l) := by
  induction n with
  | zero =>
    intro l hl
    have : l = [] := List.eq_nil_of_length_eq_zero (by omega)
    subst this
    rw [rle_nil]; intro x hx; simp at hx
  | succ n ih =>
    intro l hl
    cases l with
    | nil => rw [rle_nil]; intro x hx; simp at hx
    | cons b t =>
      rw [rle_cons]
      exact Byt.app (Byt.app (num_byte b) (cnt_byte _)) (ih _ (by simp at hl ⊢; omega))
theorem dif_byt : ∀ (p : Int) (l : List Int), Byt (dif p l)
  | p, [] => by intro x hx; simp [dif] at hx
  | p, b :: t => by rw [dif]; exact Byt.app (cnt_byte _) (dif_byt b t)
theorem dlt_byt : ∀ (p : Int) (l : List Int), Byt (dlt p l)
  | p, [] => by intro x hx; simp [dlt] at hx
  | p, b :: t => by rw [dlt]; exact Byt.app (num_byte _) (dlt_byt b t)
theorem body_byt (c : Nat) {l : List Int} (h : Okv l) (hne : l ≠ []) : Byt (body c l) := by
  have hfw := fw_le h hne
  unfold body
  split
  · exact nums_byt l
  split
  · exact rle_byt _ l (Nat.le_refl _)
  split
  · unfold dict
    exact Byt.app (Byt.app (Byt.app (cnt_byte _) (num_byte _)) (dif_byt _ _)) (pb_byte (allbits_bits _ _))
  split
  · unfold frame
    refine Byt.app (Byt.app (num_byte _) ?_) (pb_byte (allbits_bits _ _))
    intro x hx
    rw [List.mem_singleton.1 hx]
    omega
  · exact dlt_byt _ _
theorem enc_byt {c : Nat} (hc : c ≤ 255) {l : List Int} (h : Okv l) : Byt (enc c l) := by
  unfold enc
  refine Byt.app ?_ ?_
  · intro x hx
    rcases List.mem_cons.1 hx with rfl | hx
    · omega
    · exact cnt_byte _ x hx
  · split
    · intro x hx; simp at hx
    · rename_i hne; exact body_byt c h hne

/-! ### decode -/
theorem Okv_nil : Okv [] := ⟨by simp, by simp⟩
theorem j1_bad (b : List Int) (c : Int) (o s : List Int) : Ev (fun k => encode_decode.j1 k b c o s true) ([], false) :=
  Ev.step (fun k => by rw [encode_decode.j1]) (ev_pos rfl (ev_some _))
theorem j1_ok {b : List Int} (hb : Byt b) {c : Nat} (h1 : 1 ≤ c) (h5 : c ≤ 5) (o s : List Int) : Ev (fun k => encode_decode.j1 k b (c : Int) o s false) (if chk o = 0 ∧ enc c o = b then (o, true) else ([], false)) := by
  refine Ev.step (fun k => by rw [encode_decode.j1]) (ev_neg (by simp) (Ev.bind (check_ev o) ?_))
  by_cases h0 : chk o = 0
  · have ho := chk_ok.1 h0
    refine ev_pos h0 (Ev.bind (encode_ev h1 h5 ho) ?_)
    rw [bytesEqual_eq (enc_byt (by omega) ho) hb]
    refine Ev.bind (ev_some _) ?_
    by_cases he : enc c o = b
    · rw [show (if chk o = 0 ∧ enc c o = b then (o, true) else (([] : List Int), false)) = (o, true) from if_pos ⟨h0, he⟩]
      exact ev_pos (by simpa using he) (ev_some _)
    · rw [show (if chk o = 0 ∧ enc c o = b then (o, true) else (([] : List Int), false)) = ([], false) from if_neg (fun h => he h.2)]
      exact ev_neg (by simpa using he) (ev_some _)
  · rw [if_neg (fun h => h0 h.1)]
    exact ev_neg h0 (ev_some _)
/-- What decode may answer. -/
def DecOk (b : List Int) (r : List Int × Bool) : Prop := r = ([], false) ∨ ∃ c l, 1 ≤ c ∧ c ≤ 5 ∧ Okv l ∧ enc c l = b ∧ r = (l, true)
theorem j1_any {b : List Int} (hb : Byt b) {c : Nat} (h1 : 1 ≤ c) (h5 : c ≤ 5) (o s : List Int) (bad : Bool) : ∃ r, Ev (fun k => encode_decode.j1 k b (c : Int) o s bad) r ∧ DecOk b r := by
  cases bad with
  | true => exact ⟨_, j1_bad b c o s, Or.inl rfl⟩
  | false =>
    refine ⟨_, j1_ok hb h1 h5 o s, ?_⟩
    by_cases h : chk o = 0 ∧ enc c o = b
    · rw [if_pos h]; exact Or.inr ⟨c, o, h1, h5, chk_ok.1 h.1, h.2, rfl⟩
    · rw [if_neg h]; exact Or.inl rfl
theorem decode_total {b : List Int} (hb : Byt b) : ∃ r, Ev (fun k => encode_decode.f k b) r ∧ DecOk b r := by
  have ht : Byt b.tail := by rw [← List.drop_one]; exact hb.drop 1
  have hbyte := byteB b false hb
  have hlv := lt_val b.tail (false || b.isEmpty)
  have head : ∀ r, Ev (fun k => if (decide (1 ≤ b.headD 0) && decide (b.headD 0 ≤ 5)) = true then (if (lt_ b.tail (false || b.isEmpty)).1 > 0 then (encode_decode.j0 k b (b.headD 0) (lt_ b.tail (false || b.isEmpty)).1 ([] : List Int) (!(lt_ b.tail (false || b.isEmpty)).2.2) (lt_ b.tail (false || b.isEmpty)).2.1 (lt_ b.tail (false || b.isEmpty)).2.2) else (encode_decode.j0 k b (b.headD 0) (lt_ b.tail (false || b.isEmpty)).1 ([] : List Int) false (lt_ b.tail (false || b.isEmpty)).2.1 (lt_ b.tail (false || b.isEmpty)).2.2)) else (some (([] : List Int), false))) r → Ev (fun k => encode_decode.f k b) r := by
    intro r h
    unfold encode_decode.f
    rw [hbyte]
    refine Ev.bind (ev_some _) (Ev.bind (lt_ev _ ht) ?_)
    rw [in_eq]
    exact Ev.bind (ev_some _) h
  by_cases hc : 1 ≤ b.headD 0 ∧ b.headD 0 ≤ 5
  · obtain ⟨c, hcc⟩ := Int.eq_ofNat_of_zero_le (show 0 ≤ b.headD 0 by omega)
    have hc' : (decide (1 ≤ b.headD 0) && decide (b.headD 0 ≤ 5)) = true := by simpa using hc
    obtain ⟨many, hmany⟩ := Int.eq_ofNat_of_zero_le hlv.1
    have key : ∃ r, Ev (fun k => if (lt_ b.tail (false || b.isEmpty)).1 > 0 then (encode_decode.j0 k b (b.headD 0) (lt_ b.tail (false || b.isEmpty)).1 ([] : List Int) (!(lt_ b.tail (false || b.isEmpty)).2.2) (lt_ b.tail (false || b.isEmpty)).2.1 (lt_ b.tail (false || b.isEmpty)).2.2) else (encode_decode.j0 k b (b.headD 0) (lt_ b.tail (false || b.isEmpty)).1 ([] : List Int) false (lt_ b.tail (false || b.isEmpty)).2.1 (lt_ b.tail (false || b.isEmpty)).2.2)) r ∧ DecOk b r := by
      have off : ∀ (m : Int) (s : List Int) (bad : Bool), ∃ r, Ev (fun k => encode_decode.j0 k b (b.headD 0) m [] false s bad) r ∧ DecOk b r := by
        intro m s bad
        obtain ⟨r, hr, ho⟩ := j1_any hb (c := c) (by omega) (by omega) [] s bad
        refine ⟨r, Ev.step (fun k => by rw [encode_decode.j0]) (ev_neg (by simp) ?_), ho⟩
        rw [hcc]
        exact hr
      by_cases h0 : (lt_ b.tail (false || b.isEmpty)).1 > 0
      · cases hbad : (lt_ b.tail (false || b.isEmpty)).2.2 with
        | true =>
          obtain ⟨r, hr, ho⟩ := off (lt_ b.tail (false || b.isEmpty)).1 (lt_ b.tail (false || b.isEmpty)).2.1 true
          exact ⟨r, ev_pos h0 hr, ho⟩
        | false =>
          obtain ⟨v, hv⟩ := values_total (c := b.headD 0) hc (many := many) (by omega) (lt_byt (bad := (false || b.isEmpty)) ht)
          obtain ⟨r, hr, ho⟩ := j1_any hb (c := c) (by omega) (by omega) v.1 v.2.1 v.2.2
          refine ⟨r, ev_pos h0 (Ev.step (fun k => by rw [encode_decode.j0]) (ev_pos (show (!false) = true from rfl) ?_)), ho⟩
          rw [hmany]
          rw [hcc] at hv ⊢
          exact Ev.bind hv hr
      · obtain ⟨r, hr, ho⟩ := off (lt_ b.tail (false || b.isEmpty)).1 (lt_ b.tail (false || b.isEmpty)).2.1 (lt_ b.tail (false || b.isEmpty)).2.2
        exact ⟨r, ev_neg h0 hr, ho⟩
    obtain ⟨r, hr, ho⟩ := key
    exact ⟨r, head r (ev_pos hc' hr), ho⟩
  · exact ⟨_, head _ (ev_neg (by simpa using hc) (ev_some _)), Or.inl rfl⟩
theorem decode_round {c : Nat} (h1 : 1 ≤ c) (h5 : c ≤ 5) {l : List Int} (h : Okv l) : Ev (fun k => encode_decode.f k (enc c l)) (l, true) := by
  have hb := enc_byt (c := c) (by omega) h
  have hn := h.1
  have htl : (enc c l).tail = cnt l.length ++ (if l = [] then [] else body c l) := by simp [enc]
  have hhd : (enc c l).headD 0 = (c : Int) := by simp [enc]
  have hem : (enc c l).isEmpty = false := by simp [enc]
  have ht : Byt (cnt l.length ++ (if l = [] then [] else body c l)) := by rw [← htl, ← List.drop_one]; exact hb.drop 1
  have hlt := lt_cnt (n := l.length) (if l = [] then [] else body c l) hn
  have fin : ∀ s, Ev (fun k => encode_decode.j1 k (enc c l) (c : Int) l s false) (l, true) := by
    intro s
    have := j1_ok hb h1 h5 l s
    rwa [if_pos ⟨chk_ok.2 h, rfl⟩] at this
  unfold encode_decode.f
  rw [byteB _ false hb, htl, hhd, hem]
  refine Ev.bind (ev_some _) (Ev.bind (lt_ev false ht) ?_)
  rw [hlt, in_eq]
  refine Ev.bind (ev_some _) (ev_pos (by simp; omega) ?_)
  dsimp only
  by_cases hz : l = []
  · refine ev_neg (by rw [hz]; simp) (Ev.step (fun k => by rw [encode_decode.j0]) (ev_neg (by simp) ?_))
    have := fin (if l = [] then [] else body c l)
    rw [hz] at this ⊢
    exact this
  · have hp := List.length_pos_iff.2 hz
    refine ev_pos (by omega) (Ev.step (fun k => by rw [encode_decode.j0]) (ev_pos (show (!false) = true from rfl) ?_))
    rw [if_neg hz]
    exact Ev.bind (values_round ⟨h1, h5⟩ h hz (body_byt c h hz)) (fin [])
/-- What Decode may answer. -/
def DecAns (b : List Int) (r : List Int × Int) : Prop := (r = ([], 2) ∨ r = ([], 3)) ∨ ∃ c l, 1 ≤ c ∧ c ≤ 5 ∧ Okv l ∧ enc c l = b ∧ r = (l, 0)
theorem Decode_total {b : List Int} (hb : Byt b) : ∃ r, Ev (fun k => encode_Decode.f k b) r ∧ DecAns b r := by
  by_cases hl : b.length > 500000
  · exact ⟨([], 2), by unfold encode_Decode.f; exact ev_pos (by omega) (ev_some _), Or.inl (Or.inl rfl)⟩
  · obtain ⟨r, hr, ho⟩ := decode_total hb
    rcases ho with rfl | ⟨c, l, h1, h5, h, he, rfl⟩
    · exact ⟨([], 3), by unfold encode_Decode.f; exact ev_neg (by omega) (Ev.bind hr (ev_neg (by simp) (ev_some _))), Or.inl (Or.inr rfl)⟩
    · exact ⟨(l, 0), by unfold encode_Decode.f; exact ev_neg (by omega) (Ev.bind hr (ev_pos rfl (ev_some _))), Or.inr ⟨c, l, h1, h5, h, he, rfl⟩⟩
theorem Decode_round {c : Nat} (h1 : 1 ≤ c) (h5 : c ≤ 5) {l : List Int} (h : Okv l) : Ev (fun k => encode_Decode.f k (enc c l)) (l, 0) := by
  have hl := enc_len (c := c) h
  unfold encode_Decode.f
  exact ev_neg (by omega) (Ev.bind (decode_round h1 h5 h) (ev_pos rfl (ev_some _)))
end Go.Proofs.Ythhdihnaicggiaa.J
