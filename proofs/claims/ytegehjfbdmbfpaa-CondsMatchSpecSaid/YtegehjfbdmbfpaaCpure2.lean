/- Can and Must of the program and of the reference answer alike, and the law CondsMatchSpec is true of every input, in plain Lean. No conditions beyond those in each theorem. -/
import Derived.Test.YtegehjfbdmbfpaaCpure
namespace Go.Proofs.Ytegehjfbdmbfpaa.G
open Go.RowKit Go.Proofs.YtegehjfbdmbfpaaW.PrintWords Go.Proofs.YtegehjfbdmbfpaaW.PrintLast Go.Proofs.YtegehjfbdmbfpaaW.PrintMore
set_option linter.unusedVariables false
set_option linter.unusedSimpArgs false

theorem same_b (k n : Int) (s : ByteArray) (k' n' : Int) (s' : ByteArray) : (k == k' && (n == n' && (s.toList == s'.toList))) = decide (ord k n s k' n' s' = 0) := by
  by_cases h : ord k n s k' n' s' = 0
  · obtain ⟨rfl, rfl, e⟩ := ord_zero.1 h
    simp [h, e]
  · rw [decide_eq_false h]
    by_cases h1 : k = k'
    · by_cases h2 : n = n'
      · by_cases h3 : s.toList = s'.toList
        · exact absurd (ord_zero.2 ⟨h1, h2, h3⟩) h
        · rw [beq_eq_false_iff_ne.2 h3]; simp
      · rw [beq_eq_false_iff_ne.2 h2]; simp
    · rw [beq_eq_false_iff_ne.2 h1]; simp
theorem diff_b (k n : Int) (s : ByteArray) (k' n' : Int) (s' : ByteArray) : (!(k == k') || (!(n == n') || (!(s.toList == s'.toList)))) = !decide (ord k n s k' n' s' = 0) := by
  rw [← same_b, Bool.not_and, Bool.not_and]
theorem may_same {ro nu d k1 n1 : Int} {s1 : ByteArray} {k2 n2 : Int} {s2 : ByteArray} {k n : Int} {s : ByteArray} (f : Nat) (hf : 2 ≤ f) :
    peristyleref3_may.f f ro nu d k1 n1 s1 k2 n2 s2 k n s = some (decide (d ≠ 0 ∧ (ord k1 n1 s1 k n s = 0 ∨ ord k2 n2 s2 k n s = 0 ∨ (d > 2 ∧ ord k1 n1 s1 k n s < 0 ∧ ord k2 n2 s2 k n s > 0)))) := by
  obtain ⟨f, rfl⟩ : ∃ m, f = m + 1 := ⟨f - 1, by omega⟩
  unfold peristyleref3_may.f
  rw [same_b, same_b]
  simp only [peristyleref3_may.j0, ord_ref, Option.bind_some]
  rw [ord_neg (k := k1) (n := n1) (s := s1) (k' := k) (n' := n) (s' := s), ord_neg (k := k2) (n := n2) (s := s2) (k' := k) (n' := n) (s' := s)]
  have ra := ord_range k1 n1 s1 k n s
  have rb := ord_range k2 n2 s2 k n s
  generalize ord k1 n1 s1 k n s = a at *
  generalize ord k2 n2 s2 k n s = b at *
  by_cases hd : d = 0
  · simp [hd]
  · rw [if_neg hd]
    by_cases h3 : d > 2 <;> rcases ra with rfl | rfl | rfl <;> rcases rb with rfl | rfl | rfl <;> simp [hd, h3]

variable {ro nu d k1 n1 : Int} {s1 : ByteArray} {k2 n2 : Int} {s2 : ByteArray} {col ck k n : Int} {s : ByteArray}

theorem can_same (z : ZoneOk ro nu d k1 n1 s1 k2 n2 s2) (c : CondOk ck k n s k1) :
    ∃ b, segment_can.f ro nu d k1 n1 s1 k2 n2 s2 col ck k n s = some b ∧ ∀ f, 2 ≤ f → peristyleref3_can.f f ro nu d k1 n1 s1 k2 n2 s2 col ck k n s = some b := by
  have h1 := ord_impl z.vl c.v
  have h2 := ord_impl z.vg c.v
  unfold segment_can.f
  by_cases h4 : ck = 4
  · rw [if_pos h4]
    exact ⟨_, rfl, fun f hf => by unfold peristyleref3_can.f; rw [if_pos h4]⟩
  rw [if_neg h4]
  by_cases hd : d = 0
  · rw [if_pos hd]
    exact ⟨_, rfl, fun f hf => by unfold peristyleref3_can.f; rw [if_neg h4, if_pos hd]⟩
  rw [if_neg hd, h1, h2]
  simp only [Option.bind_some]
  have ra := ord_range k1 n1 s1 k n s
  have rb := ord_range k2 n2 s2 k n s
  by_cases hc1 : ck = 1
  · refine ⟨decide (d ≠ 0 ∧ (ord k1 n1 s1 k n s = 0 ∨ ord k2 n2 s2 k n s = 0 ∨ (d > 2 ∧ ord k1 n1 s1 k n s < 0 ∧ ord k2 n2 s2 k n s > 0))), ?_, fun f hf => ?_⟩
    · generalize ord k1 n1 s1 k n s = a at *
      generalize ord k2 n2 s2 k n s = b at *
      by_cases h3 : d > 2 <;> rcases ra with rfl | rfl | rfl <;> rcases rb with rfl | rfl | rfl <;> simp [hd, h3, hc1]
    · unfold peristyleref3_can.f
      rw [if_neg h4, if_neg hd, if_pos hc1, may_same f hf]
      rfl
  rw [if_neg hc1]
  by_cases hc2 : ck = 2
  · rw [if_pos hc2]
    exact ⟨_, rfl, fun f hf => by unfold peristyleref3_can.f; rw [if_neg h4, if_neg hd, if_neg hc1, if_pos hc2, ord_ref]; rfl⟩
  rw [if_neg hc2]
  by_cases hc3 : ck = 3
  · rw [if_pos hc3]
    exact ⟨_, rfl, fun f hf => by unfold peristyleref3_can.f; rw [if_neg h4, if_neg hd, if_neg hc1, if_neg hc2, if_pos hc3, ord_ref]; rfl⟩
  rw [if_neg hc3]
  by_cases h1' : d > 1
  · rw [if_pos h1']
    exact ⟨_, rfl, fun f hf => by unfold peristyleref3_can.f; rw [if_neg h4, if_neg hd, if_neg hc1, if_neg hc2, if_neg hc3, if_pos h1']⟩
  · rw [if_neg h1']
    refine ⟨_, rfl, fun f hf => ?_⟩
    unfold peristyleref3_can.f
    rw [if_neg h4, if_neg hd, if_neg hc1, if_neg hc2, if_neg hc3, if_neg h1', diff_b]
    rcases ra with e | e | e <;> rw [e] <;> rfl

theorem must_same (z : ZoneOk ro nu d k1 n1 s1 k2 n2 s2) (c : CondOk ck k n s k1) :
    ∃ b, segment_must.f ro nu d k1 n1 s1 k2 n2 s2 col ck k n s = some b ∧ ∀ f, 2 ≤ f → peristyleref3_must.f f ro nu d k1 n1 s1 k2 n2 s2 col ck k n s = some b := by
  have h1 := ord_impl z.vl c.v
  have h2 := ord_impl z.vg c.v
  unfold segment_must.f
  by_cases h4 : ck = 4
  · rw [if_pos h4]
    exact ⟨_, rfl, fun f hf => by unfold peristyleref3_must.f; rw [if_pos h4]⟩
  rw [if_neg h4]
  by_cases hr : ro = 0
  · rw [if_pos hr]
    exact ⟨_, rfl, fun f hf => by unfold peristyleref3_must.f; rw [if_neg h4, if_pos hr]⟩
  rw [if_neg hr]
  by_cases hn : nu > 0
  · rw [if_pos hn]
    exact ⟨_, rfl, fun f hf => by unfold peristyleref3_must.f; rw [if_neg h4, if_neg hr, if_pos hn]⟩
  rw [if_neg hn]
  have hd : d ≠ 0 := fun e => by have := z.dz.1 e; have := z.u0; omega
  obtain ⟨hz1, hz2, hz3, hz4⟩ := z.some_ hd
  have ro_ := ord_range k1 n1 s1 k2 n2 s2
  have ra := ord_range k1 n1 s1 k n s
  have rb := ord_range k2 n2 s2 k n s
  have d0 := z.d0
  -- the least one is not above the greatest one
  have t1 : ord k1 n1 s1 k2 n2 s2 = 0 → ord k1 n1 s1 k n s = ord k2 n2 s2 k n s := by
    intro eo
    obtain ⟨rfl, rfl, e⟩ := ord_zero.1 eo
    unfold ord
    rw [e]
  have t2 : ord k1 n1 s1 k2 n2 s2 < 0 → ord k1 n1 s1 k n s ≥ 0 → ord k2 n2 s2 k n s > 0 := by
    intro e h
    by_cases h0 : ord k1 n1 s1 k n s = 0
    · obtain ⟨rfl, rfl, e0⟩ := ord_zero.1 h0
      have : ord k2 n2 s2 k1 n1 s = - ord k1 n1 s k2 n2 s2 := ord_neg
      have e2 : ord k1 n1 s k2 n2 s2 = ord k1 n1 s1 k2 n2 s2 := by unfold ord; rw [e0]
      omega
    · have h' : ord k n s k1 n1 s1 < 0 := by
        have := ord_neg (k := k1) (n := n1) (s := s1) (k' := k) (n' := n) (s' := s)
        omega
      have := ord_trans h' e
      have := ord_neg (k := k) (n := n) (s := s) (k' := k2) (n' := n2) (s' := s2)
      omega
  rw [h1, h2]
  simp only [Option.bind_some]
  by_cases hc1 : ck = 1
  · rw [if_pos hc1]
    refine ⟨decide (d = 1 ∧ ord k1 n1 s1 k n s = 0), ?_, fun f hf => ?_⟩
    · generalize ord k1 n1 s1 k n s = a at *
      generalize ord k2 n2 s2 k n s = b at *
      generalize ord k1 n1 s1 k2 n2 s2 = o at *
      by_cases ha : a = 0
      · rw [if_pos ha]
        by_cases hb : b = 0
        · have : o = 0 := by omega
          have : d = 1 := hz4.1 this
          simp [ha, hb, this]
        · have : ¬ d = 1 := fun e => by have := hz4.2 e; have := t1 this; omega
          simp [ha, hb, this]
      · rw [if_neg ha]
        simp [ha]
    · unfold peristyleref3_must.f
      rw [if_neg h4, if_neg hr, if_neg hn, if_pos hc1, same_b]
      by_cases hd1 : d = 1 <;> simp [hd1]
  rw [if_neg hc1]
  by_cases hc2 : ck = 2
  · rw [if_pos hc2]
    exact ⟨_, rfl, fun f hf => by unfold peristyleref3_must.f; rw [if_neg h4, if_neg hr, if_neg hn, if_neg hc1, if_pos hc2, ord_ref]; rfl⟩
  rw [if_neg hc2]
  by_cases hc3 : ck = 3
  · rw [if_pos hc3]
    exact ⟨_, rfl, fun f hf => by unfold peristyleref3_must.f; rw [if_neg h4, if_neg hr, if_neg hn, if_neg hc1, if_neg hc2, if_pos hc3, ord_ref]; rfl⟩
  rw [if_neg hc3]
  refine ⟨!decide (d ≠ 0 ∧ (ord k1 n1 s1 k n s = 0 ∨ ord k2 n2 s2 k n s = 0 ∨ (d > 2 ∧ ord k1 n1 s1 k n s < 0 ∧ ord k2 n2 s2 k n s > 0))), ?_, fun f hf => ?_⟩
  · generalize ord k1 n1 s1 k n s = a at *
    generalize ord k2 n2 s2 k n s = b at *
    generalize ord k1 n1 s1 k2 n2 s2 = o at *
    have hd3 : d = 1 ∨ d = 2 ∨ d > 2 := by omega
    have n1' : ¬ (d = 1 ∧ d = 2) := by omega
    rcases hd3 with rfl | rfl | hd3
    · have ho : o = 0 := hz4.2 rfl
      have := t1 ho
      subst this
      rcases ra with rfl | rfl | rfl <;> simp
    · have ho : o < 0 := by
        rcases ro_ with h | h | h
        · omega
        · have := hz4.1 h; omega
        · omega
      have := t2 ho
      rcases ra with rfl | rfl | rfl <;> rcases rb with rfl | rfl | rfl <;> simp at this ⊢
    · have ho : o < 0 := by
        rcases ro_ with h | h | h
        · omega
        · have := hz4.1 h; omega
        · omega
      have := t2 ho
      have h2' : ¬ d = 2 := by omega
      rcases ra with rfl | rfl | rfl <;> rcases rb with rfl | rfl | rfl <;> simp [hd, hd3, h2'] at this ⊢
  · unfold peristyleref3_must.f
    rw [if_neg h4, if_neg hr, if_neg hn, if_neg hc1, if_neg hc2, if_neg hc3, may_same f hf]
    rfl

theorem awake_true (k : Nat) (hk : 10 ≤ k) : peristylelaw3_awake.f k = some true := by
  obtain ⟨k, rfl⟩ : ∃ m, k = m + 4 := ⟨k - 4, by omega⟩
  simp [peristylelaw3_awake.f, segment_Summed.f, segment_Summed.l0, rd, wrap64]

theorem CondsPure (ro nu d k1 n1 : Int) (s1 : ByteArray) (k2 n2 : Int) (s2 : ByteArray) (col ck k n : Int) (s : ByteArray) :
    peristylelaw3_CondsMatchSpec.f 400 ro nu d k1 n1 s1 k2 n2 s2 col ck k n s = some true := by
  obtain ⟨r, z1, z2, z3⟩ := zone_same ro nu d k1 n1 s1 k2 n2 s2
  obtain ⟨q, c1, c2, c3⟩ := cond_same col ck k n s k1
  have hf : (400 : Nat) ≤ 400 := Nat.le_refl _
  unfold peristylelaw3_CondsMatchSpec.f segment_Can.f peristyleref3_Can.f segment_Must.f peristyleref3_Must.f segment_checkBoth.f peristyleref3_zoneAndCond.f
  rw [z1 400 hf, z2 400 hf, c1 400 hf, c2 400 hf, awake_true 400 (by decide)]
  simp only [Option.bind_some]
  by_cases hr : r = 0
  · rw [if_pos hr]
    simp only [Option.bind_some]
    by_cases hq : q = 0
    · obtain ⟨b, e1, e2⟩ := can_same (col := col) (z3 hr) (c3 hq)
      obtain ⟨b', e3, e4⟩ := must_same (col := col) (z3 hr) (c3 hq)
      rw [e1, e2 400 (by decide), e3, e4 400 (by decide)]
      simp [hq]
    · simp [hq]
  · rw [if_neg hr]
    simp [hr]
theorem CondsSaid (ro nu d k1 n1 : Int) (s1 : ByteArray) (k2 n2 : Int) (s2 : ByteArray) (col ck k n : Int) (s : ByteArray) {p q : Prop} (_ : p) (_ : q) :
    ∃ f, peristylelaw3_CondsMatchSpec.f f ro nu d k1 n1 s1 k2 n2 s2 col ck k n s = some true := ⟨400, CondsPure ro nu d k1 n1 s1 k2 n2 s2 col ck k n s⟩
end Go.Proofs.Ytegehjfbdmbfpaa.G
