/- Decode of the reference, in plain Lean: it answers as the program's; and the law EncodeIntsMatchSpec, as the row asks for it. No conditions beyond those in each theorem. -/
import Derived.Test.YthhdihnaicggiaaIMT
namespace Go.Proofs.Ythhdihnaicggiaa.I
open Go.RowKit Go.Proofs.YthhdihnaicggiaaW.PrintWords Go.Proofs.YthhdihnaicggiaaW.PrintLast Go.Proofs.YthhdihnaicggiaaW.PrintMore
set_option linter.unusedVariables false
set_option linter.unusedSimpArgs false

/-! ### decode -/
/-- What Decode may answer of bytes that are not too many. -/
def DecIn (b : List Int) (r : List Int × Int) : Prop := r = ([], 3) ∨ ∃ c l, 1 ≤ c ∧ c ≤ 5 ∧ Okv l ∧ enc c l = b ∧ r = (l, 0)
theorem qj1_bad (b : List Int) (c : Int) (o s : List Int) : Ev (fun k => peristyleref2_Decode.j1 k b c o s true) ([], 3) :=
 Ev.step (fun k => by rw [peristyleref2_Decode.j1]) (ev_pos rfl (ev_some _))
theorem qj1_ok (b : List Int) (c : Int) (o s : List Int) : ∃ r, Ev (fun k => peristyleref2_Decode.j1 k b c o s false) r ∧ DecIn b r := by
 have head : ∀ r, Ev (fun k => if (encAns c o).2 = 0 then ((slices_Equal_byte_byte.f k (encAns c o).1 b).bind fun t635 => (if t635 = true then (some (o, 0)) else (some (([] : List Int), 3)))) else (some (([] : List Int), 3))) r → Ev (fun k => peristyleref2_Decode.j1 k b c o s false) r := by
  intro r h
  exact Ev.step (fun k => by rw [peristyleref2_Decode.j1]) (ev_neg (by simp) (Ev.bind (rEncode_ev c o) h))
 have eo : encAns c o = if 1 ≤ c ∧ c ≤ 5 then (if chk o = 0 then (enc c.toNat o, 0) else ([], chk o)) else ([], 4) := rfl
 by_cases hc : 1 ≤ c ∧ c ≤ 5
 ·rw [if_pos hc] at eo
  by_cases h0 : chk o = 0
  ·rw [if_pos h0] at eo
   have ho := chk_ok.1 h0
   have hl := enc_len (c := c.toNat) ho
   rw [eo] at head
   have he := eqB_ev (x := enc c.toNat o) (y := b) (by omega)
   by_cases hb : enc c.toNat o = b
   ·exact ⟨(o, 0), head _ (ev_pos rfl (Ev.bind he (ev_pos (by simpa using hb) (ev_some _)))), Or.inr ⟨c.toNat, o, by omega, by omega, ho, hb, rfl⟩⟩
   ·exact ⟨([], 3), head _ (ev_pos rfl (Ev.bind he (ev_neg (by simpa using hb) (ev_some _)))), Or.inl rfl⟩
  ·rw [if_neg h0] at eo
   rw [eo] at head
   exact ⟨([], 3), head _ (ev_neg h0 (ev_some _)), Or.inl rfl⟩
 ·rw [if_neg hc] at eo
  rw [eo] at head
  exact ⟨([], 3), head _ (ev_neg (by simp) (ev_some _)), Or.inl rfl⟩
theorem qj1_any (b : List Int) (c : Int) (o s : List Int) (bad : Bool) : ∃ r, Ev (fun k => peristyleref2_Decode.j1 k b c o s bad) r ∧ DecIn b r := by
 cases bad with
 | true => exact ⟨_, qj1_bad b c o s, Or.inl rfl⟩
 | false => exact qj1_ok b c o s
theorem rDecode_total {b : List Int} (hb : Byt b) (hl : ¬ b.length > 500000) : ∃ r, Ev (fun k => peristyleref2_Decode.f k b) r ∧ DecIn b r := by
 have hv := qct_val b.tail (false || b.isEmpty)
 have stop : Ev (fun k => peristyleref2_Decode.j0 k b (b.headD 0) (qct b.tail (false || b.isEmpty)).1 true (qct b.tail (false || b.isEmpty)).2.1 (qct b.tail (false || b.isEmpty)).2.2) ([], 3) :=
  Ev.step (fun k => by rw [peristyleref2_Decode.j0]) (ev_pos rfl (ev_some _))
 have head : ∀ r, Ev (fun k => if (qct b.tail (false || b.isEmpty)).2.2 = true then (peristyleref2_Decode.j0 k b (b.headD 0) (qct b.tail (false || b.isEmpty)).1 true (qct b.tail (false || b.isEmpty)).2.1 (qct b.tail (false || b.isEmpty)).2.2) else (peristyleref2_Decode.j0 k b (b.headD 0) (qct b.tail (false || b.isEmpty)).1 (decide ((qct b.tail (false || b.isEmpty)).1 > 2000)) (qct b.tail (false || b.isEmpty)).2.1 (qct b.tail (false || b.isEmpty)).2.2)) r → Ev (fun k => peristyleref2_Decode.f k b) r := by
  intro r h
  unfold peristyleref2_Decode.f
  refine ev_neg (by omega) ?_
  rw [rbyteB b false hb]
  exact Ev.bind (ev_some _) (Ev.bind (qct_ev _ hb.tail) h)
 by_cases h1 : (qct b.tail (false || b.isEmpty)).2.2 = true
 ·exact ⟨_, head _ (ev_pos h1 stop), Or.inl rfl⟩
 ·by_cases h2 : (qct b.tail (false || b.isEmpty)).1 > 2000
  ·rw [show decide ((qct b.tail (false || b.isEmpty)).1 > 2000) = true by simpa using h2] at head
   exact ⟨_, head _ (ev_neg h1 stop), Or.inl rfl⟩
  ·rw [show decide ((qct b.tail (false || b.isEmpty)).1 > 2000) = false by simpa using h2] at head
   obtain ⟨many, hm⟩ := Int.eq_ofNat_of_zero_le hv.1
   have hj : ∃ r, Ev (fun k => peristyleref2_Decode.j0 k b (b.headD 0) (qct b.tail (false || b.isEmpty)).1 false (qct b.tail (false || b.isEmpty)).2.1 (qct b.tail (false || b.isEmpty)).2.2) r ∧ DecIn b r := by
    by_cases h0 : (qct b.tail (false || b.isEmpty)).1 > 0
    ·obtain ⟨v, hv2⟩ := qvalues_total (b.headD 0) (many := many) (by omega) (s := (qct b.tail (false || b.isEmpty)).2.1) (qct_byt hb.tail) (qct b.tail (false || b.isEmpty)).2.2
     obtain ⟨r, hr, ho⟩ := qj1_any b (b.headD 0) v.1 v.2.1 v.2.2
     refine ⟨r, Ev.step (fun k => by rw [peristyleref2_Decode.j0]) (ev_neg (by simp) (ev_pos h0 ?_)), ho⟩
     rw [hm]
     exact Ev.bind hv2 hr
    ·obtain ⟨r, hr, ho⟩ := qj1_any b (b.headD 0) [] (qct b.tail (false || b.isEmpty)).2.1 (qct b.tail (false || b.isEmpty)).2.2
     exact ⟨r, Ev.step (fun k => by rw [peristyleref2_Decode.j0]) (ev_neg (by simp) (ev_neg h0 hr)), ho⟩
   obtain ⟨r, hr, ho⟩ := hj
   exact ⟨r, head r (ev_neg h1 hr), ho⟩
theorem rDecode_round {c : Nat} (h1 : 1 ≤ c) (h5 : c ≤ 5) {l : List Int} (h : Okv l) : Ev (fun k => peristyleref2_Decode.f k (enc c l)) (l, 0) := by
 have hb := enc_byt (c := c) (by omega) h
 have hl := enc_len (c := c) h
 have hn := h.1
 have htl : (enc c l).tail = cnt l.length ++ (if l = [] then [] else body c l) := by simp [enc]
 have hhd : (enc c l).headD 0 = (c : Int) := by simp [enc]
 have hem : (enc c l).isEmpty = false := by simp [enc]
 have ht : Byt (cnt l.length ++ (if l = [] then [] else body c l)) := by rw [← htl]; exact hb.tail
 have hct := qct_cnt (n := l.length) (if l = [] then [] else body c l) (by omega)
 have ean : encAns (c : Int) l = (enc c l, 0) := by
  unfold encAns
  rw [if_pos (by omega), if_pos (chk_ok.2 h), Int.toNat_natCast]
 have fin : ∀ s, Ev (fun k => peristyleref2_Decode.j1 k (enc c l) (c : Int) l s false) (l, 0) := by
  intro s
  refine Ev.step (fun k => by rw [peristyleref2_Decode.j1]) (ev_neg (by simp) (Ev.bind (rEncode_ev (c : Int) l) ?_))
  rw [ean]
  exact ev_pos rfl (Ev.bind (eqB_ev (by show (enc c l).length ≤ _; omega)) (ev_pos (by simp) (ev_some _)))
 unfold peristyleref2_Decode.f
 refine ev_neg (by omega) ?_
 rw [rbyteB _ false hb, htl, hhd, hem]
 refine Ev.bind (ev_some _) (Ev.bind (qct_ev _ ht) ?_)
 rw [show (false || false) = false from rfl, hct]
 dsimp only
 refine ev_neg (by simp) ?_
 rw [show decide ((l.length : Int) > 2000) = false by simp; omega]
 refine Ev.step (fun k => by rw [peristyleref2_Decode.j0]) (ev_neg (by simp) ?_)
 by_cases hz : l = []
 ·refine ev_neg (by rw [hz]; simp) ?_
  have := fin (if l = [] then [] else body c l)
  rw [hz] at this ⊢
  exact this
 ·have hp := List.length_pos_iff.2 hz
  refine ev_pos (by omega) ?_
  rw [if_neg hz]
  exact Ev.bind (qvalues_round ⟨h1, h5⟩ h hz (body_byt c h hz)) (fin [])
theorem Decode_in {b : List Int} (hb : Byt b) (hl : ¬ b.length > 500000) : ∃ r, Ev (fun k => encode_Decode.f k b) r ∧ DecIn b r := by
 obtain ⟨r, hr, ho⟩ := decode_total hb
 rcases ho with rfl | ⟨c, l, h1, h5, h, he, rfl⟩
 ·exact ⟨([], 3), by unfold encode_Decode.f; exact ev_neg (by omega) (Ev.bind hr (ev_neg (by simp) (ev_some _))), Or.inl rfl⟩
 ·exact ⟨(l, 0), by unfold encode_Decode.f; exact ev_neg (by omega) (Ev.bind hr (ev_pos rfl (ev_some _))), Or.inr ⟨c, l, h1, h5, h, he, rfl⟩⟩
/-- Both decode alike. -/
theorem both_decode {b : List Int} (hb : Byt b) : ∃ r, Ev (fun k => encode_Decode.f k b) r ∧ Ev (fun k => peristyleref2_Decode.f k b) r ∧ (r.1 = [] ∨ Okv r.1) := by
 by_cases hl : b.length > 500000
 ·exact ⟨([], 2), by unfold encode_Decode.f; exact ev_pos (by omega) (ev_some _), by unfold peristyleref2_Decode.f; exact ev_pos (by omega) (ev_some _), Or.inl rfl⟩
 ·obtain ⟨r, hr, ho⟩ := Decode_in hb hl
  obtain ⟨q, hq, hoq⟩ := rDecode_total hb hl
  rcases ho with rfl | ⟨c, l, h1, h5, h, rfl, rfl⟩
  ·rcases hoq with rfl | ⟨c, l, h1, h5, h, rfl, rfl⟩
   ·exact ⟨_, hr, hq, Or.inl rfl⟩
   ·exact ⟨_, Decode_round h1 h5 h, hq, Or.inr h⟩
  ·exact ⟨_, hr, rDecode_round h1 h5 h, Or.inr h⟩

/-! ### the law -/
theorem byt_of_wf {l : List Int} (h : ∀ x ∈ l, (fun n : Int => (Lit.int .u8 n).wf = true) x) : Byt l := by
 intro n hn
 have a : IntKind.u8.min = 0 := by decide
 have b : IntKind.u8.max = 255 := by decide
 have := h n hn
 simp [Lit.wf] at this
 omega
theorem encAns_len (c : Int) (l : List Int) : (encAns c l).1.length ≤ 100000 := by
 unfold encAns
 split
 ·split
  ·rename_i h
   exact enc_len (chk_ok.1 h)
  ·simp
 ·simp
theorem ints_ev (c : Int) (l : List Int) {b : List Int} (hb : Byt b) : Ev (fun k => peristylelaw2_EncodeIntsMatchSpec.f k c l b) true := by
 have h0 := encAns_len c l
 obtain ⟨r, h1, h2, h3⟩ := both_decode hb
 have hr : r.1.length ≤ 140737488355328 := by
  rcases h3 with h3 | h3
  ·rw [h3]; simp
  ·have := h3.1; omega
 have hj1 : Ev (fun k => peristylelaw2_EncodeIntsMatchSpec.j1 k b false) true :=
  Ev.step (fun k => by rw [peristylelaw2_EncodeIntsMatchSpec.j1]) (ev_neg (by simp) (Ev.bind h1 (Ev.bind h2 (ev_pos rfl (Ev.bind (eqI_ev hr) (ev_pos (show decide (r.1 = r.1) = true by simp) (Ev.bind awake_e (ev_some _))))))))
 have hj0 : Ev (fun k => peristylelaw2_EncodeIntsMatchSpec.j0 k l b false) true := by
  refine Ev.step (fun k => by rw [peristylelaw2_EncodeIntsMatchSpec.j0]) (ev_neg (by simp) (Ev.bind (Best_ev l) (Ev.bind (rBest_ev l) (ev_pos rfl ?_))))
  rw [show ((bestAns l).1 != (bestAns l).1) = false by simp]
  exact hj1
 unfold peristylelaw2_EncodeIntsMatchSpec.f
 refine Ev.bind (Encode_ev c l) (Ev.bind (rEncode_ev c l) (ev_pos rfl (Ev.bind (eqB_ev (by omega)) ?_)))
 rw [show (!decide ((encAns c l).1 = (encAns c l).1)) = false by simp]
 exact hj0
theorem ints_pure (c : Int) (l : List Int) (b : List Int) (hc : (Lit.int .i64 c).wf = true) (h0 : l.length ≤ maxLen ∧ ∀ x ∈ l, (fun n : Int => (Lit.int .i64 n).wf = true) x) (y0 : l.length * 8 ≤ 140737488351232) (h1 : b.length ≤ maxLen ∧ ∀ x ∈ b, (fun n : Int => (Lit.int .u8 n).wf = true) x) (y1 : b.length * 1 ≤ 140737488351232) : ∃ k, peristylelaw2_EncodeIntsMatchSpec.f k c l b = some true := by
 obtain ⟨K, h⟩ := ints_ev c l (byt_of_wf h1.2)
 exact ⟨K, h K (Nat.le_refl _)⟩
end Go.Proofs.Ythhdihnaicggiaa.I
