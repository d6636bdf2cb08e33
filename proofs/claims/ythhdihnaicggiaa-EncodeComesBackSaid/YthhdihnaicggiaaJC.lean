/- The law EncodeComesBack, in plain Lean, as the row asks for it. No conditions beyond those in each theorem. -/
import Derived.Test.YthhdihnaicggiaaMC
namespace Go.Proofs.Ythhdihnaicggiaa.G
open Go.RowKit Go.Proofs.YthhdihnaicggiaaW.PrintWords Go.Proofs.YthhdihnaicggiaaW.PrintLast Go.Proofs.YthhdihnaicggiaaW.PrintMore
set_option linter.unusedVariables false
set_option linter.unusedSimpArgs false
theorem byt_of_wf {l : List Int} (h : ∀ x ∈ l, (fun n : Int => (Lit.int .u8 n).wf = true) x) : Byt l := by
  intro n hn
  have a : IntKind.u8.min = 0 := by decide
  have b : IntKind.u8.max = 255 := by decide
  have := h n hn
  simp [Lit.wf] at this
  omega
theorem comes_j0 {b : List Int} (hb : Byt b) : Ev (fun k => peristylelaw2_EncodeComesBack.j0 k b) true := by
  obtain ⟨r, hr, ho⟩ := Decode_total hb
  refine Ev.step (fun k => by rw [peristylelaw2_EncodeComesBack.j0]) (Ev.bind hr ?_)
  rcases ho with (rfl | rfl) | ⟨c, l, h1, h5, h, rfl, rfl⟩
  · exact ev_neg (by simp) (ev_pos rfl (Ev.bind awake_e (ev_some _)))
  · exact ev_neg (by simp) (ev_pos rfl (Ev.bind awake_e (ev_some _)))
  · have hl := enc_len (c := c) h
    have hr0 : rd (enc c l) 0 = (c : Int) := by simp [rd, enc]
    have he : encAns (c : Int) l = (enc c l, 0) := by
      unfold encAns
      rw [if_pos (by omega), if_pos (chk_ok.2 h), Int.toNat_natCast]
    refine ev_pos rfl (ev_pos (by simp [enc]; omega) ?_)
    rw [hr0, w64 (by omega) (by omega)]
    refine Ev.bind (Encode_ev _ _) ?_
    dsimp only
    rw [he]
    exact ev_pos rfl (Ev.bind (eqB_ev (by show (enc c l).length ≤ _; omega)) (ev_pos (by simp) (Ev.bind awake_e (ev_some _))))
theorem comes_ev (c : Int) (l : List Int) {b : List Int} (hb : Byt b) : Ev (fun k => peristylelaw2_EncodeComesBack.f k c l b) true := by
  unfold peristylelaw2_EncodeComesBack.f
  refine Ev.bind (Encode_ev c l) ?_
  unfold encAns
  by_cases hc : 1 ≤ c ∧ c ≤ 5
  · rw [if_pos hc]
    by_cases h0 : chk l = 0
    · have h := chk_ok.1 h0
      have hn := h.1
      rw [if_pos h0]
      refine ev_pos rfl (Ev.bind (Decode_round (by omega) (by omega) h) (ev_pos rfl (Ev.bind (eqI_ev (by show l.length ≤ _; omega)) (ev_pos (by simp) (comes_j0 hb)))))
    · rw [if_neg h0]
      exact ev_neg h0 (comes_j0 hb)
  · rw [if_neg hc]
    exact ev_neg (by simp) (comes_j0 hb)
theorem comes_pure (c : Int) (l : List Int) (b : List Int) (hc : (Lit.int .i64 c).wf = true) (h0 : l.length ≤ maxLen ∧ ∀ x ∈ l, (fun n : Int => (Lit.int .i64 n).wf = true) x) (y0 : l.length * 8 ≤ 140737488351232) (h1 : b.length ≤ maxLen ∧ ∀ x ∈ b, (fun n : Int => (Lit.int .u8 n).wf = true) x) (y1 : b.length * 1 ≤ 140737488351232) : ∃ k, peristylelaw2_EncodeComesBack.f k c l b = some true := by
  obtain ⟨K, h⟩ := comes_ev c l (byt_of_wf h1.2)
  exact ⟨K, h K (Nat.le_refl _)⟩
end Go.Proofs.Ythhdihnaicggiaa.G
