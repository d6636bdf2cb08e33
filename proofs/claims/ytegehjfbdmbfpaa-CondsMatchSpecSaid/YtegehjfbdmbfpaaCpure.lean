/- What is said of zones and conditions in plain Lean: the program and the reference answer alike. No conditions beyond those in each theorem. -/
import Derived.Test.YtegehjfbdmbfpaaVal
import Derived.Test.YtegehjfbdmbfpaaG10
import Derived.Test.YtegehjfbdmbfpaaG13
namespace Go.Proofs.Ytegehjfbdmbfpaa.G
open Go.RowKit Go.Proofs.YtegehjfbdmbfpaaW.PrintWords Go.Proofs.YtegehjfbdmbfpaaW.PrintLast Go.Proofs.YtegehjfbdmbfpaaW.PrintMore
set_option linter.unusedVariables false
set_option linter.unusedSimpArgs false

theorem within3 (a b c : Int) : peristyleref3_within.f a b c = kit_In.f a b c := rfl

/-- What holds of a zone that is right. -/
structure ZoneOk (ro nu d k1 n1 : Int) (s1 : ByteArray) (k2 n2 : Int) (s2 : ByteArray) : Prop where
  vl : cv k1 n1 s1 = 0
  vg : cv k2 n2 s2 = 0
  r0 : 0 ≤ ro
  r1 : ro ≤ 500
  u0 : 0 ≤ nu
  u1 : nu ≤ ro
  d0 : 0 ≤ d
  d1 : d ≤ ro - nu
  dz : d = 0 ↔ ro = nu
  none_ : d = 0 → k1 = 0 ∧ k2 = 0
  some_ : d ≠ 0 → k1 ≠ 0 ∧ k2 = k1 ∧ ord k1 n1 s1 k2 n2 s2 ≤ 0 ∧ (ord k1 n1 s1 k2 n2 s2 = 0 ↔ d = 1)

set_option maxHeartbeats 4000000 in
theorem ends_same (ro nu d k1 n1 : Int) (s1 : ByteArray) (k2 n2 : Int) (s2 : ByteArray) (h1 : cv k1 n1 s1 = 0) (h2 : cv k2 n2 s2 = 0) (hd : 0 ≤ d) :
    ∃ r, (∀ k, 10 ≤ k → segment_checkEnds.f k ro nu d k1 n1 s1 k2 n2 s2 0 = some r) ∧ (∀ k, 10 ≤ k → peristyleref3_ends.f k ro nu d k1 n1 s1 k2 n2 s2 (if k1 = 0 then k2 else k1) = some r) ∧
      (r = 0 → (d = 0 → k1 = 0 ∧ k2 = 0) ∧ (d ≠ 0 → k1 ≠ 0 ∧ k2 = k1 ∧ ord k1 n1 s1 k2 n2 s2 ≤ 0 ∧ (ord k1 n1 s1 k2 n2 s2 = 0 ↔ d = 1))) := by
  have hr := ord_range k1 n1 s1 k2 n2 s2
  have ei := ord_impl h1 h2
  have er := ord_ref k1 n1 s1 k2 n2 s2
  generalize ord k1 n1 s1 k2 n2 s2 = o at *
  have key : ∀ P : Nat → Prop, (∀ k, P (k + 8)) → ∀ k, 10 ≤ k → P k := by
    intro P hP k hk
    have := hP (k - 8)
    rwa [Nat.sub_add_cancel (by omega)] at this
  by_cases hd0 : d = 0
  · subst hd0
    by_cases hk1 : k1 = 0
    · subst hk1
      by_cases hk2 : k2 = 0
      · subst hk2
        refine ⟨0, key _ (fun k => ?_), key _ (fun k => ?_), by simp⟩
        · simp [segment_checkEnds.f, segment_checkEnds.j0, kit_IsNull.f]
        · simp [peristyleref3_ends.f, peristyleref3_ends.j0]
      · refine ⟨3, key _ (fun k => ?_), key _ (fun k => ?_), by simp⟩
        · simp [segment_checkEnds.f, segment_checkEnds.j0, kit_IsNull.f, hk2]
        · simp [peristyleref3_ends.f, peristyleref3_ends.j0, hk2]
    · refine ⟨3, key _ (fun k => ?_), key _ (fun k => ?_), by simp⟩
      · simp [segment_checkEnds.f, segment_checkEnds.j0, kit_IsNull.f, hk1]
      · simp [peristyleref3_ends.f, peristyleref3_ends.j0, hk1]
  · have hp : d > 0 := by omega
    have hdb : (d == 0) = false := beq_eq_false_iff_ne.2 hd0
    by_cases hk1 : k1 = 0
    · subst hk1
      refine ⟨3, key _ (fun k => ?_), key _ (fun k => ?_), by simp⟩
      · simp [segment_checkEnds.f, segment_checkEnds.j0, kit_IsNull.f, hp]
      · simp [peristyleref3_ends.f, peristyleref3_ends.j0, hd0]
    · by_cases hk2 : k2 = 0
      · subst hk2
        refine ⟨3, key _ (fun k => ?_), key _ (fun k => ?_), by simp⟩
        · simp [segment_checkEnds.f, segment_checkEnds.j0, kit_IsNull.f, hp, hk1]
        · simp [peristyleref3_ends.f, peristyleref3_ends.j0, hd0, hk1]
      · have hk1b : (k1 == 0) = false := beq_eq_false_iff_ne.2 hk1
        have hk2b : (k2 == 0) = false := beq_eq_false_iff_ne.2 hk2
        by_cases hkk : k2 = k1
        · rcases hr with rfl | rfl | rfl
          · by_cases hone : d = 1
            · refine ⟨8, key _ (fun k => ?_), key _ (fun k => ?_), by simp⟩
              · simp [segment_checkEnds.f, segment_checkEnds.j0, segment_checkEnds.j1, segment_checkEnds.j2, kit_IsNull.f, hp, hk1, hk2, hkk, ei, hone]
                subst hkk
                simp [ei]
              · simp [peristyleref3_ends.f, peristyleref3_ends.j0, peristyleref3_ends.j1, hdb, hk1b, hk2b, hd0, hk1, hk2, hkk, er, hone]
                subst hkk
                simp [er]
            · refine ⟨0, key _ (fun k => ?_), key _ (fun k => ?_), fun _ => ⟨fun h => absurd h hd0, fun _ => ⟨hk1, hkk, by omega, by omega⟩⟩⟩
              · simp [segment_checkEnds.f, segment_checkEnds.j0, segment_checkEnds.j1, segment_checkEnds.j2, kit_IsNull.f, hp, hk1, hk2, hkk, ei, hone]
                subst hkk
                simp [ei, hone]
              · simp [peristyleref3_ends.f, peristyleref3_ends.j0, peristyleref3_ends.j1, hdb, hk1b, hk2b, hd0, hk1, hk2, hkk, er, hone]
                subst hkk
                simp [er, hone]
          · by_cases hone : d = 1
            · refine ⟨0, key _ (fun k => ?_), key _ (fun k => ?_), fun _ => ⟨fun h => absurd h hd0, fun _ => ⟨hk1, hkk, by omega, by omega⟩⟩⟩
              · subst hkk
                simp [segment_checkEnds.f, segment_checkEnds.j0, segment_checkEnds.j1, segment_checkEnds.j2, kit_IsNull.f, hp, hk1, hk2, ei, hone]
              · subst hkk
                simp [peristyleref3_ends.f, peristyleref3_ends.j0, peristyleref3_ends.j1, hdb, hk1b, hk2b, hd0, hk1, hk2, er, hone]
            · have h1' : d > 1 := by omega
              refine ⟨8, key _ (fun k => ?_), key _ (fun k => ?_), by simp⟩
              · subst hkk
                simp [segment_checkEnds.f, segment_checkEnds.j0, segment_checkEnds.j1, segment_checkEnds.j2, kit_IsNull.f, hp, hk1, hk2, ei, h1']
              · subst hkk
                simp [peristyleref3_ends.f, peristyleref3_ends.j0, peristyleref3_ends.j1, hdb, hk1b, hk2b, hd0, hk1, hk2, er, hone]
          · refine ⟨8, key _ (fun k => ?_), key _ (fun k => ?_), by simp⟩
            · subst hkk
              simp [segment_checkEnds.f, segment_checkEnds.j0, segment_checkEnds.j1, segment_checkEnds.j2, kit_IsNull.f, hp, hk1, hk2, ei]
            · subst hkk
              simp [peristyleref3_ends.f, peristyleref3_ends.j0, peristyleref3_ends.j1, hdb, hk1b, hk2b, hd0, hk1, hk2, er]
        · refine ⟨10, key _ (fun k => ?_), key _ (fun k => ?_), by simp⟩
          · simp [segment_checkEnds.f, segment_checkEnds.j0, segment_checkEnds.j1, segment_checkEnds.j2, kit_IsNull.f, hp, hk1, hk2, hkk]
          · simp [peristyleref3_ends.f, peristyleref3_ends.j0, peristyleref3_ends.j1, hdb, hk1b, hk2b, hd0, hk1, hk2, hkk]

set_option maxHeartbeats 4000000 in
theorem zone_same (ro nu d k1 n1 : Int) (s1 : ByteArray) (k2 n2 : Int) (s2 : ByteArray) :
    ∃ r, (∀ k, 400 ≤ k → segment_checkZone.f k ro nu d k1 n1 s1 k2 n2 s2 = some r) ∧ (∀ k, 400 ≤ k → peristyleref3_checkZone.f k ro nu d k1 n1 s1 k2 n2 s2 = some r) ∧ (r = 0 → ZoneOk ro nu d k1 n1 s1 k2 n2 s2) := by
  have key : ∀ P : Nat → Prop, (∀ k, 399 ≤ k → P (k + 1)) → ∀ k, 400 ≤ k → P k := by
    intro P hP k hk
    have := hP (k - 1) (by omega)
    rwa [Nat.sub_add_cancel (by omega)] at this
  by_cases a : 0 ≤ ro ∧ ro ≤ 500
  · obtain ⟨a0, a1⟩ := a
    by_cases b : 0 ≤ nu ∧ nu ≤ ro
    · obtain ⟨b0, b1⟩ := b
      have hw : wrap64 (ro - nu) = ro - nu := by unfold wrap64; omega
      by_cases c : 0 ≤ d ∧ d ≤ ro - nu
      · obtain ⟨c0, c1⟩ := c
        by_cases e : d = 0 ↔ ro = nu
        · have eb : ((d == 0) != (ro == nu)) = false := by
            by_cases h1 : d = 0
            · have h2 := e.1 h1; simp [h1, h2]
            · have h2 := fun h => h1 (e.2 h); rw [beq_eq_false_iff_ne.2 h1, beq_eq_false_iff_ne.2 h2]; rfl
          by_cases v1 : cv k1 n1 s1 = 0
          · by_cases v2 : cv k2 n2 s2 = 0
            · obtain ⟨r, q1, q2, q3⟩ := ends_same ro nu d k1 n1 s1 k2 n2 s2 v1 v2 c0
              refine ⟨r, key _ (fun k hk => ?_), key _ (fun k hk => ?_), fun h => ⟨v1, v2, a0, a1, b0, b1, c0, c1, e, (q3 h).1, (q3 h).2⟩⟩
              · simp only [segment_checkZone.f, segment_checkZone.j0, kit_In.f, a0, a1, b0, b1, c0, c1, hw, eb, if_true, Option.bind_some, decide_true, cv_impl _ _ _ k (by omega), v1, v2, q1 k (by omega), Bool.false_eq_true, if_false]
              · simp only [peristyleref3_checkZone.f, peristyleref3_checkZone.j0, within3, kit_In.f, a0, a1, b0, b1, c0, c1, hw, eb, if_true, Option.bind_some, decide_true, cv_ref _ _ _ k (by omega), v1, v2, Bool.false_eq_true, if_false]
                have := q2 k (by omega)
                by_cases hz : k1 = 0
                · rw [if_pos hz] at this
                  rw [if_pos hz, this]; rfl
                · rw [if_neg hz] at this
                  rw [if_neg hz, this]; rfl
            · refine ⟨cv k2 n2 s2, key _ (fun k hk => ?_), key _ (fun k hk => ?_), fun h => absurd h v2⟩
              · simp only [segment_checkZone.f, segment_checkZone.j0, kit_In.f, a0, a1, b0, b1, c0, c1, hw, eb, if_true, Option.bind_some, decide_true, cv_impl _ _ _ k (by omega), v1, v2, Bool.false_eq_true, if_false]
              · simp only [peristyleref3_checkZone.f, peristyleref3_checkZone.j0, within3, kit_In.f, a0, a1, b0, b1, c0, c1, hw, eb, if_true, Option.bind_some, decide_true, cv_ref _ _ _ k (by omega), v1, v2, Bool.false_eq_true, if_false]
          · refine ⟨cv k1 n1 s1, key _ (fun k hk => ?_), key _ (fun k hk => ?_), fun h => absurd h v1⟩
            · simp only [segment_checkZone.f, segment_checkZone.j0, kit_In.f, a0, a1, b0, b1, c0, c1, hw, eb, if_true, Option.bind_some, decide_true, cv_impl _ _ _ k (by omega), v1, Bool.false_eq_true, if_false]
            · simp only [peristyleref3_checkZone.f, peristyleref3_checkZone.j0, within3, kit_In.f, a0, a1, b0, b1, c0, c1, hw, eb, if_true, Option.bind_some, decide_true, cv_ref _ _ _ k (by omega), v1, Bool.false_eq_true, if_false]
        · have eb : ((d == 0) != (ro == nu)) = true := by
            by_cases h1 : d = 0
            · by_cases h2 : ro = nu
              · exact absurd ⟨fun _ => h2, fun _ => h1⟩ e
              · simp [h1, h2]
            · by_cases h2 : ro = nu
              · simp [h1, h2]
              · exact absurd ⟨fun h => absurd h h1, fun h => absurd h h2⟩ e
          refine ⟨1, key _ (fun k hk => ?_), key _ (fun k hk => ?_), by simp⟩
          · simp only [segment_checkZone.f, segment_checkZone.j0, kit_In.f, a0, a1, b0, b1, c0, c1, hw, eb, if_true, Option.bind_some, decide_true]
          · simp only [peristyleref3_checkZone.f, peristyleref3_checkZone.j0, within3, kit_In.f, a0, a1, b0, b1, c0, c1, hw, eb, if_true, Option.bind_some, decide_true]
      · have hin : kit_In.f d 0 (ro - nu) = some false := by
          unfold kit_In.f
          by_cases h0 : 0 ≤ d
          · rw [if_pos h0]; simp; omega
          · rw [if_neg h0]
        refine ⟨1, key _ (fun k hk => ?_), key _ (fun k hk => ?_), by simp⟩
        · simp only [segment_checkZone.f, segment_checkZone.j0, hw, hin, Option.bind_some, if_true, Bool.false_eq_true, if_false]
          simp only [kit_In.f, a0, a1, b0, b1, if_true, Option.bind_some, decide_true]
        · simp only [peristyleref3_checkZone.f, peristyleref3_checkZone.j0, within3, hw, hin, Option.bind_some, if_true, Bool.false_eq_true, if_false]
          simp only [kit_In.f, a0, a1, b0, b1, if_true, Option.bind_some, decide_true]
    · have hin : kit_In.f nu 0 ro = some false := by
        unfold kit_In.f
        by_cases h0 : 0 ≤ nu
        · rw [if_pos h0]; simp; omega
        · rw [if_neg h0]
      refine ⟨1, key _ (fun k hk => ?_), key _ (fun k hk => ?_), by simp⟩
      · simp only [segment_checkZone.f, segment_checkZone.j0, hin, Option.bind_some, if_true, Bool.false_eq_true, if_false]
        simp only [kit_In.f, a0, a1, if_true, Option.bind_some, decide_true]
      · simp only [peristyleref3_checkZone.f, peristyleref3_checkZone.j0, within3, hin, Option.bind_some, if_true, Bool.false_eq_true, if_false]
        simp only [kit_In.f, a0, a1, if_true, Option.bind_some, decide_true]
  · have hin : kit_In.f ro 0 500 = some false := by
      unfold kit_In.f
      by_cases h0 : 0 ≤ ro
      · rw [if_pos h0]; simp; omega
      · rw [if_neg h0]
    refine ⟨1, key _ (fun k hk => ?_), key _ (fun k hk => ?_), by simp⟩
    · simp only [segment_checkZone.f, segment_checkZone.j0, hin, Option.bind_some, if_true, Bool.false_eq_true, if_false]
    · simp only [peristyleref3_checkZone.f, peristyleref3_checkZone.j0, within3, hin, Option.bind_some, if_true, Bool.false_eq_true, if_false]

/-- What holds of a condition that is right, of values of a kind (0: of any). -/
structure CondOk (ck k n : Int) (s : ByteArray) (kind : Int) : Prop where
  v : cv k n s = 0
  c0 : 1 ≤ ck
  c1 : ck ≤ 5
  null : k = 0 ↔ ck = 4
  kind_ : ck ≠ 4 → kind ≠ 0 → k = kind

set_option maxHeartbeats 4000000 in
theorem cond_same (col ck k1 n1 : Int) (s1 : ByteArray) (kind : Int) :
    ∃ r, (∀ k, 400 ≤ k → segment_CheckCond.f k col ck k1 n1 s1 kind = some r) ∧ (∀ k, 400 ≤ k → peristyleref3_checkCond.f k col ck k1 n1 s1 kind = some r) ∧ (r = 0 → CondOk ck k1 n1 s1 kind) := by
  by_cases a : 1 ≤ ck ∧ ck ≤ 5
  · obtain ⟨a0, a1⟩ := a
    by_cases v : cv k1 n1 s1 = 0
    · by_cases e : k1 = 0 ↔ ck = 4
      · have eb : ((k1 == 0) != (ck == 4)) = false := by
          by_cases h1 : k1 = 0
          · have h2 := e.1 h1; simp [h1, h2]
          · have h2 := fun h => h1 (e.2 h); rw [beq_eq_false_iff_ne.2 h1, beq_eq_false_iff_ne.2 h2]; rfl
        by_cases h4 : ck = 4
        · refine ⟨0, fun k hk => ?_, fun k hk => ?_, fun _ => ⟨v, a0, a1, e, fun h => absurd h4 h⟩⟩
          · simp only [segment_CheckCond.f, kit_In.f, a0, a1, if_true, Option.bind_some, decide_true, cv_impl _ _ _ k (by omega), v, kit_IsNull.f, eb, Bool.false_eq_true, if_false, if_pos h4]
          · simp only [peristyleref3_checkCond.f, within3, kit_In.f, a0, a1, if_true, Option.bind_some, decide_true, cv_ref _ _ _ k (by omega), v, eb, Bool.false_eq_true, if_false, if_pos h4]
        · by_cases hk : kind = 0
          · refine ⟨0, fun k hk' => ?_, fun k hk' => ?_, fun _ => ⟨v, a0, a1, e, fun _ h => absurd hk h⟩⟩
            · simp only [segment_CheckCond.f, kit_In.f, a0, a1, if_true, Option.bind_some, decide_true, cv_impl _ _ _ k (by omega), v, kit_IsNull.f, eb, Bool.false_eq_true, if_false, if_neg h4, if_pos hk]
            · simp only [peristyleref3_checkCond.f, within3, kit_In.f, a0, a1, if_true, Option.bind_some, decide_true, cv_ref _ _ _ k (by omega), v, eb, Bool.false_eq_true, if_false, if_neg h4, if_pos hk]
          · by_cases hkk : k1 = kind
            · refine ⟨0, fun k hk' => ?_, fun k hk' => ?_, fun _ => ⟨v, a0, a1, e, fun _ _ => hkk⟩⟩
              · simp only [segment_CheckCond.f, kit_In.f, a0, a1, if_true, Option.bind_some, decide_true, cv_impl _ _ _ k (by omega), v, kit_IsNull.f, eb, Bool.false_eq_true, if_false, if_neg h4, if_neg hk, if_pos hkk]
              · simp only [peristyleref3_checkCond.f, within3, kit_In.f, a0, a1, if_true, Option.bind_some, decide_true, cv_ref _ _ _ k (by omega), v, eb, Bool.false_eq_true, if_false, if_neg h4, if_neg hk, if_pos hkk]
            · refine ⟨10, fun k hk' => ?_, fun k hk' => ?_, by simp⟩
              · simp only [segment_CheckCond.f, kit_In.f, a0, a1, if_true, Option.bind_some, decide_true, cv_impl _ _ _ k (by omega), v, kit_IsNull.f, eb, Bool.false_eq_true, if_false, if_neg h4, if_neg hk, if_neg hkk]
              · simp only [peristyleref3_checkCond.f, within3, kit_In.f, a0, a1, if_true, Option.bind_some, decide_true, cv_ref _ _ _ k (by omega), v, eb, Bool.false_eq_true, if_false, if_neg h4, if_neg hk, if_neg hkk]
      · have eb : ((k1 == 0) != (ck == 4)) = true := by
          by_cases h1 : k1 = 0
          · by_cases h2 : ck = 4
            · exact absurd ⟨fun _ => h2, fun _ => h1⟩ e
            · simp [h1, h2]
          · by_cases h2 : ck = 4
            · simp [h1, h2]
            · exact absurd ⟨fun h => absurd h h1, fun h => absurd h h2⟩ e
        refine ⟨3, fun k hk => ?_, fun k hk => ?_, by simp⟩
        · simp only [segment_CheckCond.f, kit_In.f, a0, a1, if_true, Option.bind_some, decide_true, cv_impl _ _ _ k (by omega), v, kit_IsNull.f, eb]
        · simp only [peristyleref3_checkCond.f, within3, kit_In.f, a0, a1, if_true, Option.bind_some, decide_true, cv_ref _ _ _ k (by omega), v, eb]
    · refine ⟨cv k1 n1 s1, fun k hk => ?_, fun k hk => ?_, fun h => absurd h v⟩
      · simp only [segment_CheckCond.f, kit_In.f, a0, a1, if_true, Option.bind_some, decide_true, cv_impl _ _ _ k (by omega), v, if_false]
      · simp only [peristyleref3_checkCond.f, within3, kit_In.f, a0, a1, if_true, Option.bind_some, decide_true, cv_ref _ _ _ k (by omega), v, if_false]
  · have hin : kit_In.f ck 1 5 = some false := by
      unfold kit_In.f
      by_cases h0 : 1 ≤ ck
      · rw [if_pos h0]; simp; omega
      · rw [if_neg h0]
    refine ⟨4, fun k hk => ?_, fun k hk => ?_, by simp⟩
    · simp only [segment_CheckCond.f, hin, Option.bind_some, Bool.false_eq_true, if_false]
    · simp only [peristyleref3_checkCond.f, within3, hin, Option.bind_some, Bool.false_eq_true, if_false]
end Go.Proofs.Ytegehjfbdmbfpaa.G
