/- NullBytes and ReadNulls, the program's and the reference's, in plain Lean, and the law of them. No conditions beyond those in each theorem. -/
import Derived.Test.YthhdihnaicggiaaM1
import Derived.Test.YthhdihnaicggiaaM2
import Derived.Test.YthhdihnaicggiaaM3
import Derived.Test.YthhdihnaicggiaaG4
import Derived.Test.YthhdihnaicggiaaG5
import Derived.Test.YthhdihnaicggiaaG6
import Derived.Test.YthhdihnaicggiaaG7
import Derived.Test.YthhdihnaicggiaaG8
import Derived.Test.YthhdihnaicggiaaG9
namespace Go.Proofs.Ythhdihnaicggiaa.G
open Go.RowKit Go.Proofs.YthhdihnaicggiaaW.PrintWords Go.Proofs.YthhdihnaicggiaaW.PrintLast Go.Proofs.YthhdihnaicggiaaW.PrintMore
set_option linter.unusedVariables false
set_option linter.unusedSimpArgs false

theorem ev_mono {α : Type} {f : Nat → Option α} {r : α} (n : Nat) (hm : ∀ k, LeO (f k) (f (k + 1))) (h : f n = some r) : Ev f r := by
  have key : ∀ d, f (n + d) = some r := by
    intro d
    induction d with
    | zero => exact h
    | succ d ih => exact hm _ _ ih
  exact ⟨n, fun k hk => by
    have := key (k - n)
    rwa [show n + (k - n) = k by omega] at this⟩
theorem awake_ev : Ev (fun k => peristylelaw2_awake.f k) true := ev_mono 30 peristylelaw2_awake.mono (by decide +kernel)

/-! ### the reference's NullBytes -/
theorem rnb_l1 (x : List Bool) (hx : x.length ≤ 2000) (out : List Int) (i : Nat) (b : Bool) (t : List Bool) (hd_ : x.drop i = b :: t) (ho : out.length ≤ 1000000) (r : List Int × Int) (e : Nat) :
    ∀ j, hd b t = j + e → Ev (fun k => peristyleref2_NullBytes.l0 k x (out ++ cnt (hd b t + 1)) ((i + (hd b t + 1) : Nat) : Int)) r →
      Ev (fun k => peristyleref2_NullBytes.l1 k x out (i : Int) ((i + (j + 1) : Nat) : Int)) r := by
  have hlen : x.length = i + (t.length + 1) := by
    have := congrArg List.length hd_
    simp at this
    omega
  have hget : ∀ q, x[i + q]? = (b :: t)[q]? := by
    intro q
    rw [← hd_, List.getElem?_drop]
  have hle := hd_le b t
  have hi0 : x.getD i false = b := by
    have := hget 0
    simp at this
    simp [List.getD, this]
  have hcl := cnt_len10 (n := hd b t + 1) (by omega)
  induction e with
  | zero =>
    intro j hj h
    have hj' : j = hd b t := by omega
    subst hj'
    have fin : Ev (fun k => (peristyleref2_count.f k (wrap64 (((i + (hd b t + 1) : Nat) : Int) - (i : Int)))).bind fun t278 => if out.length + t278.length < 140737488355328 then peristyleref2_NullBytes.l0 k x (out ++ t278) ((i + (hd b t + 1) : Nat) : Int) else none) r := by
      rw [w64 (by omega) (by omega), show ((i + (hd b t + 1) : Nat) : Int) - (i : Int) = ((hd b t + 1 : Nat) : Int) by omega]
      exact Ev.bind (rcount_ev (by omega)) (ev_pos (by omega) h)
    refine Ev.step (fun k => by rw [peristyleref2_NullBytes.l1]) ?_
    by_cases hin : i + (hd b t + 1) < x.length
    · have hnx : x.getD (i + (hd b t + 1)) false = !b := by
        have h1 := hget (hd b t + 1)
        have h2 := hd_end (b := b) (l := t) (by omega)
        simp only [List.getElem?_cons_succ, h2] at h1
        simp [List.getD, h1]
      refine ev_pos (by omega) (ev_pos (by omega) (ev_pos (by omega) (ev_pos (by omega) (ev_neg ?_ ?_))))
      · rw [rdB, rdB, hnx, hi0]
        cases b <;> simp
      · exact fin
    · exact ev_neg (by omega) fin
  | succ e ih =>
    intro j hj h
    refine Ev.step (fun k => by rw [peristyleref2_NullBytes.l1]) ?_
    have e2 : wrap64 (((i + (j + 1) : Nat) : Int) + 1) = ((i + (j + 1 + 1) : Nat) : Int) := by rw [w64 (by omega) (by omega)]; omega
    rw [e2]
    have hnx : x.getD (i + (j + 1)) false = b := by
      have h1 := hget (j + 1)
      have h2 := hd_get (b := b) (l := t) (j := j) (by omega)
      simp only [List.getElem?_cons_succ, h2] at h1
      simp [List.getD, h1]
    refine ev_pos (by omega) (ev_pos (by omega) (ev_pos (by omega) (ev_pos (by omega) (ev_pos ?_ ?_))))
    · rw [rdB, rdB, hnx, hi0]
      simp
    · exact ih (j + 1) (by omega) h
theorem rnb_l0 (x : List Bool) (hx : x.length ≤ 2000) (d : Nat) : ∀ (i : Nat) (out : List Int), i ≤ x.length → x.length - i ≤ d → out.length + 10 * (x.length - i) ≤ 1000000 →
    Ev (fun k => peristyleref2_NullBytes.l0 k x out (i : Int)) (out ++ runs (x.drop i), 0) := by
  induction d with
  | zero =>
    intro i out hi hdd ho
    refine Ev.step (fun k => by rw [peristyleref2_NullBytes.l0]) ?_
    refine ev_neg (by omega) ?_
    have : x.drop i = [] := List.drop_eq_nil_of_le (by omega)
    rw [this]
    simpa [runs] using ev_some (out, (0 : Int))
  | succ d ih =>
    intro i out hi hdd ho
    by_cases hlt : i < x.length
    · obtain ⟨b, t, hbt⟩ : ∃ b t, x.drop i = b :: t := by
        cases h : x.drop i with
        | nil => have := congrArg List.length h; simp at this; omega
        | cons b t => exact ⟨b, t, rfl⟩
      have hlen : x.length = i + (t.length + 1) := by
        have := congrArg List.length hbt
        simp at this
        omega
      have hle := hd_le b t
      have hcl := cnt_len10 (n := hd b t + 1) (by omega)
      refine Ev.step (fun k => by rw [peristyleref2_NullBytes.l0]) ?_
      refine ev_pos (by omega) ?_
      have h0 : x.getD i false = b := by
        have := getD_drop_head (d := false) hlt
        rw [hbt] at this
        exact (List.cons.inj this).1.symm
      -- the first cell is like itself
      refine Ev.step (fun k => by rw [peristyleref2_NullBytes.l1]) ?_
      refine ev_pos (by omega) (ev_pos (by omega) (ev_pos (by omega) (ev_pos (by omega) (ev_pos (by simp) ?_))))
      rw [w64 (by omega) (by omega)]
      refine rnb_l1 x hx out i b t hbt (by omega) _ (hd b t) 0 (by omega) ?_
      have := ih (i + (hd b t + 1)) (out ++ cnt (hd b t + 1)) (by omega) (by omega) (by simp; omega)
      refine ev_eq this ?_
      rw [hbt, runs_cons, List.append_assoc, ← List.drop_drop, hbt, List.drop_succ_cons]
    · refine Ev.step (fun k => by rw [peristyleref2_NullBytes.l0]) ?_
      refine ev_neg (by omega) ?_
      have : x.drop i = [] := List.drop_eq_nil_of_le (by omega)
      rw [this]
      simpa [runs] using ev_some (out, (0 : Int))
/-- What NullBytes answers. -/
def nbAns (x : List Bool) : List Int × Int := if x.length > 2000 then ([], 2) else (nb x, 0)
theorem rNullBytes_ev (x : List Bool) : Ev (fun k => peristyleref2_NullBytes.f k x) (nbAns x) := by
  unfold peristyleref2_NullBytes.f nbAns
  by_cases hx : x.length > 2000
  · rw [if_pos hx]
    exact ev_pos (by omega) (ev_some _)
  · rw [if_neg hx]
    refine ev_neg (by omega) ?_
    cases x with
    | nil => exact ev_pos rfl (ev_some _)
    | cons b t =>
      refine ev_neg (by simp; omega) (Ev.bind (ev_some _) (ev_pos (by simp) ?_))
      have key : ∀ o : Int, Ev (fun k => peristyleref2_NullBytes.j0 k (b :: t) [o]) (o :: runs (b :: t), 0) := by
        intro o
        refine Ev.step (fun k => by rw [peristyleref2_NullBytes.j0]) ?_
        have := rnb_l0 (b :: t) (by omega) _ 0 [o] (by omega) (Nat.le_refl _) (by simp at hx ⊢; omega)
        simpa using this
      cases b with
      | true => exact ev_pos rfl (ev_pos (by simp) (key 1))
      | false => exact ev_neg (by simp [rdOf]) (key 0)
theorem iNullBytes_ev (x : List Bool) : Ev (fun k => encode_NullBytes.f k x) (nbAns x) := by
  unfold encode_NullBytes.f nbAns
  by_cases hx : x.length > 2000
  · rw [if_pos hx]
    exact ev_pos (by omega) (ev_some _)
  · rw [if_neg hx]
    exact ev_neg (by omega) (Ev.bind (nullBytes_ev (by omega)) (ev_some _))

/-! ### ReadNulls -/
theorem runs_byte (n : Nat) : ∀ l : List Bool, l.length ≤ n → ∀ x ∈ runs l, 0 ≤ x ∧ x ≤ 255 := by
  induction n with
  | zero =>
    intro l hl
    have : l = [] := List.eq_nil_of_length_eq_zero (by omega)
    subst this
    simp [runs]
  | succ n ih =>
    intro l hl
    cases l with
    | nil => simp [runs]
    | cons b l =>
      rw [runs_cons]
      intro x hx
      rcases List.mem_append.1 hx with hx | hx
      · exact cnt_byte _ x hx
      · exact ih (l.drop (hd b l)) (by simp at hl ⊢; omega) x hx
theorem nb_byte (l : List Bool) : ∀ x ∈ nb l, 0 ≤ x ∧ x ≤ 255 := by
  cases l with
  | nil => simp [nb]
  | cons b t =>
    intro x hx
    rcases List.mem_cons.1 hx with rfl | hx
    · cases b <;> simp
    · exact runs_byte _ _ (Nat.le_refl _) x hx
/-- What runs are read: none, if they are bad. -/
def rn : Nat → List Bool → Bool → List Int → Option (List Bool)
  | 0, out, _, _ => some out
  | n + 1, out, c, s => if s = [] then some out else if (rc 8 0 0 s).2.2 = true ∨ (rc 8 0 0 s).1 > 2000 - (out.length : Int) then none else rn n (out ++ List.replicate (rc 8 0 0 s).1.toNat c) (!c) (rc 8 0 0 s).2.1
/-- What is answered then. -/
def fin (b : List Int) (o : Option (List Bool)) : List Bool × Int := match o with
  | none => ([], 3)
  | some o => if nb o = b then (o, 0) else ([], 3)
theorem rn_len (n : Nat) : ∀ (out : List Bool) (c : Bool) (s : List Int) (o : List Bool), out.length ≤ 2000 → rn n out c s = some o → o.length ≤ 2000 := by
  induction n with
  | zero => intro out c s o ho h; simp [rn] at h; rw [← h]; exact ho
  | succ n ih =>
    intro out c s o ho h
    rw [rn] at h
    split at h
    · rw [← Option.some.inj h]; exact ho
    · split at h
      · exact absurd h (by simp)
      · rename_i h1 h2
        refine ih _ _ _ _ ?_ h
        have := not_or.1 h2
        have := rc_val 8 0 0 s (by omega) (by simp)
        simp
        omega
theorem hd_rep {b : Bool} (l : List Bool) : List.replicate (hd b l) b ++ l.drop (hd b l) = l := by
  induction l with
  | nil => simp [hd]
  | cons c l ih =>
    unfold hd
    split
    · rename_i h
      subst h
      rw [List.replicate_succ, List.cons_append, List.drop_succ_cons, ih]
    · simp
theorem rn_runs (n : Nat) : ∀ (out : List Bool) (c : Bool) (l : List Bool), (runs l).length ≤ n → (∀ b t, l = b :: t → c = b) → out.length + l.length ≤ 2000 → rn n out c (runs l) = some (out ++ l) := by
  induction n with
  | zero =>
    intro out c l hl hc ho
    cases l with
    | nil => simp [rn]
    | cons b t =>
      rw [runs_cons, List.length_append] at hl
      have := cnt_pos (hd b t + 1)
      omega
  | succ n ih =>
    intro out c l hl hc ho
    cases l with
    | nil => simp [rn, runs]
    | cons b t =>
      have hb := hc b t rfl
      subst hb
      have hle := hd_le c t
      rw [runs_cons, List.length_append] at hl
      have hp := cnt_pos (hd c t + 1)
      have ho' : out.length + (t.length + 1) ≤ 2000 := ho
      have hne : runs (c :: t) ≠ [] := fun h => by
        have := congrArg List.length h
        rw [runs_cons, List.length_append, List.length_nil] at this
        omega
      rw [rn, if_neg hne, runs_cons, rc_cnt8 _ (by omega)]
      rw [if_neg (by simp; omega)]
      show rn n (out ++ List.replicate ((hd c t + 1 : Nat) : Int).toNat c) (!c) (runs (t.drop (hd c t))) = _
      rw [Int.toNat_natCast]
      rw [ih _ _ _ (by omega) ?_ (by simp; omega)]
      · rw [List.append_assoc, List.replicate_succ, List.cons_append, hd_rep]
      · intro b' t' e
        have hlt : hd c t < t.length := by
          have := congrArg List.length e
          simp at this
          omega
        have h2 := hd_end hlt
        have h3 := getD_drop_head (d := false) hlt
        rw [e] at h3
        rw [(List.cons.inj h3).1]
        simp [List.getD, h2]
/-- What ReadNulls answers. -/
def rnAns (b : List Int) : List Bool × Int := if b.length > 500000 then ([], 2) else match b with
  | [] => ([], 0)
  | o :: t => fin (o :: t) (rn t.length [] (o == 1) t)
theorem rnAns_ok {b : List Int} (h : (rnAns b).2 = 0) : nb (rnAns b).1 = b ∧ (rnAns b).1.length ≤ 2000 := by
  unfold rnAns at *
  split at h
  · simp at h
  · rename_i hl
    rw [if_neg hl]
    cases b with
    | nil => simp [nb]
    | cons o t =>
      simp only at h ⊢
      cases hr : rn t.length [] (o == 1) t with
      | none => rw [hr] at h; simp [fin] at h
      | some l =>
        rw [hr] at h
        simp only [fin] at h ⊢
        split at h
        · rename_i hn
          rw [if_pos hn]
          exact ⟨hn, rn_len _ _ _ _ _ (by simp) hr⟩
        · simp at h
theorem rnAns_nb {l : List Bool} (h : l.length ≤ 2000) : rnAns (nb l) = (l, 0) := by
  have hn := nb_len h
  unfold rnAns
  rw [if_neg (by omega)]
  cases l with
  | nil => simp [nb]
  | cons b t =>
    show fin (nb (b :: t)) (rn (runs (b :: t)).length [] (((if b then 1 else 0 : Int)) == 1) (runs (b :: t))) = _
    rw [rn_runs _ [] _ (b :: t) (Nat.le_refl _) (by intro b' t' e; cases e; cases b <;> simp) (by simpa using h)]
    simp [fin]

theorem ij3_bad (b : List Int) (out : List Bool) (s : List Int) : Ev (fun k => encode_ReadNulls.j3 k b out s true) ([], 3) :=
  Ev.step (fun k => by rw [encode_ReadNulls.j3]) (ev_pos rfl (ev_some _))
theorem ij3_ok (b : List Int) (hb : ∀ x ∈ b, 0 ≤ x ∧ x ≤ 255) (out : List Bool) (ho : out.length ≤ 2000) (s : List Int) : Ev (fun k => encode_ReadNulls.j3 k b out s false) (fin b (some out)) := by
  refine Ev.step (fun k => by rw [encode_ReadNulls.j3]) (ev_neg (by simp) ?_)
  refine Ev.bind (nullBytes_ev ho) ?_
  rw [bytesEqual_eq (nb_byte out) hb]
  refine Ev.bind (ev_some _) ?_
  unfold fin
  by_cases h : nb out = b
  · exact ev_pos (by simp [h]) (ev_eq (ev_some _) (by simp [h]))
  · exact ev_neg (by simp [h]) (ev_eq (ev_some _) (by simp [h]))
theorem il1 (b : List Int) (c : Bool) (s : List Int) (bad : Bool) (r : List Bool × Int) (d : Nat) : ∀ (j : Nat) (n : Nat) (out : List Bool), n = j + d → out.length + d ≤ 2000 → n ≤ 2000 →
    Ev (fun k => encode_ReadNulls.l0 k b (out ++ List.replicate d c) (!c) s bad) r → Ev (fun k => encode_ReadNulls.l1 k b out c (n : Int) (j : Int) s bad) r := by
  induction d with
  | zero =>
    intro j n out hn ho h2 h
    refine Ev.step (fun k => by rw [encode_ReadNulls.l1]) (ev_neg (by omega) ?_)
    simpa using h
  | succ d ih =>
    intro j n out hn ho h2 h
    refine Ev.step (fun k => by rw [encode_ReadNulls.l1]) (ev_pos (by omega) (ev_pos (by omega) ?_))
    rw [w64 (by omega) (by omega)]
    refine ih (j + 1) n (out ++ [c]) (by omega) (by simp; omega) h2 ?_
    simpa [List.replicate_succ] using h
theorem il0 (b : List Int) (hb : ∀ x ∈ b, 0 ≤ x ∧ x ≤ 255) (n : Nat) : ∀ (out : List Bool) (c : Bool) (s : List Int), s.length ≤ n → s.length ≤ 500000 → out.length ≤ 2000 → (∀ x ∈ s, 0 ≤ x ∧ x ≤ 255) →
    Ev (fun k => encode_ReadNulls.l0 k b out c s false) (fin b (rn n out c s)) := by
  have done : ∀ (out : List Bool) (c : Bool) (s : List Int), out.length ≤ 2000 → s = [] → Ev (fun k => encode_ReadNulls.l0 k b out c s false) (fin b (some out)) := by
    intro out c s ho hs
    refine Ev.step (fun k => by rw [encode_ReadNulls.l0]) (ev_neg (by simp [hs]) ?_)
    exact Ev.step (fun k => by rw [encode_ReadNulls.j1]) (ev_neg (by simp) (ij3_ok b hb out ho s))
  induction n with
  | zero =>
    intro out c s hs hl ho hx
    exact done out c s ho (List.eq_nil_of_length_eq_zero (by omega))
  | succ n ih =>
    intro out c s hs hl ho hx
    by_cases he : s = []
    · rw [rn, if_pos he]
      exact done out c s ho he
    · rw [rn, if_neg he]
      have hp := List.length_pos_iff.2 he
      refine Ev.step (fun k => by rw [encode_ReadNulls.l0]) (ev_pos (by omega) ?_)
      refine Ev.step (fun k => by rw [encode_ReadNulls.j1]) (ev_pos (show (!false) = true from rfl) ?_)
      refine Ev.bind (icount_ev hx) ?_
      obtain ⟨m, hm, hm2⟩ := rc_suf 8 0 0 s
      have hv := rc_val 8 0 0 s (by omega) (by simp)
      have hm3 := (hm2 (by omega) he).2
      rw [← hm] at hm3
      have hx' : ∀ x ∈ (rc 8 0 0 s).2.1, 0 ≤ x ∧ x ≤ 255 := by
        rw [hm]
        exact fun x h => hx x (List.mem_of_mem_drop h)
      rw [w64 (by omega) (by omega)]
      by_cases hbig : (rc 8 0 0 s).1 > 2000 - (out.length : Int)
      · rw [if_pos (Or.inr hbig)]
        exact ev_pos hbig (ij3_bad _ _ _)
      · refine ev_neg hbig ?_
        obtain ⟨q, hq⟩ := Int.eq_ofNat_of_zero_le hv.1
        rw [hq]
        refine il1 b c _ _ _ q 0 q out (by omega) (by omega) (by omega) ?_
        cases hbd : (rc 8 0 0 s).2.2 with
        | true =>
          rw [if_pos (Or.inl rfl)]
          refine Ev.step (fun k => by rw [encode_ReadNulls.l0]) ?_
          by_cases h0 : ((rc 8 0 0 s).2.1.length : Int) > 0
          · exact ev_pos h0 (Ev.step (fun k => by rw [encode_ReadNulls.j1]) (ev_neg (by simp) (ij3_bad _ _ _)))
          · exact ev_neg h0 (Ev.step (fun k => by rw [encode_ReadNulls.j1]) (ev_neg (by simp) (ij3_bad _ _ _)))
        | false =>
          rw [if_neg (by rw [hq] at hbig; simpa using hbig)]
          simp only [Int.toNat_natCast]
          exact ih _ _ _ (by omega) (by omega) (by simp; omega) hx'
theorem iReadNulls_ev {b : List Int} (hb : ∀ x ∈ b, 0 ≤ x ∧ x ≤ 255) : Ev (fun k => encode_ReadNulls.f k b) (rnAns b) := by
  unfold encode_ReadNulls.f rnAns
  by_cases hl : b.length > 500000
  · rw [if_pos hl]
    exact ev_pos (by omega) (ev_some _)
  · rw [if_neg hl]
    refine ev_neg (by omega) ?_
    cases b with
    | nil => exact ev_neg (by simp) (ij3_ok [] (by simp) [] (by simp) [])
    | cons o t =>
      have ho := hb o (List.mem_cons_self ..)
      have hl' : ¬ t.length + 1 > 500000 := hl
      rw [byte_cons ho.1 ho.2]
      refine ev_pos (by simp) (Ev.bind (ev_some _) ?_)
      exact il0 (o :: t) hb _ [] _ t (Nat.le_refl _) (by omega) (by simp) (fun x hx => hb x (List.mem_cons_of_mem _ hx))

theorem rl1 (b : List Int) (c : Bool) (s : List Int) (bad : Bool) (r : List Bool × Int) (d : Nat) : ∀ (j : Nat) (n : Nat) (out : List Bool), n = j + d → out.length + d ≤ 2000 → n ≤ 2000 →
    Ev (fun k => peristyleref2_ReadNulls.l0 k b (!c) (out ++ List.replicate d c) s bad) r → Ev (fun k => peristyleref2_ReadNulls.l1 k b c out (n : Int) (j : Int) s bad) r := by
  induction d with
  | zero =>
    intro j n out hn ho h2 h
    refine Ev.step (fun k => by rw [peristyleref2_ReadNulls.l1]) (ev_neg (by omega) ?_)
    simpa using h
  | succ d ih =>
    intro j n out hn ho h2 h
    refine Ev.step (fun k => by rw [peristyleref2_ReadNulls.l1]) (ev_pos (by omega) (ev_pos (by omega) ?_))
    rw [w64 (by omega) (by omega)]
    refine ih (j + 1) n (out ++ [c]) (by omega) (by simp; omega) h2 ?_
    simpa [List.replicate_succ] using h
theorem rl0 (b : List Int) (n : Nat) : ∀ (out : List Bool) (c : Bool) (s : List Int), s.length ≤ n → s.length ≤ 500000 → out.length ≤ 2000 → (∀ x ∈ s, 0 ≤ x ∧ x ≤ 255) →
    Ev (fun k => peristyleref2_ReadNulls.l0 k b c out s false) (fin b (rn n out c s)) := by
  have done : ∀ (out : List Bool) (c : Bool) (s : List Int), out.length ≤ 2000 → s = [] → Ev (fun k => peristyleref2_ReadNulls.l0 k b c out s false) (fin b (some out)) := by
    intro out c s ho hs
    refine Ev.step (fun k => by rw [peristyleref2_ReadNulls.l0]) (ev_neg (by simp [hs]) ?_)
    refine Ev.step (fun k => by rw [peristyleref2_ReadNulls.j1]) (ev_neg (by simp) ?_)
    have hn := nb_len ho
    refine Ev.bind (rNullBytes_ev out) ?_
    unfold nbAns fin
    rw [if_neg (by omega)]
    refine ev_pos rfl (Ev.bind (eqB_ev (by first | omega | (show (nb _).length ≤ _; omega))) ?_)
    by_cases h : nb out = b
    · exact ev_pos (by simp [h]) (ev_eq (ev_some _) (by simp [h]))
    · exact ev_neg (by simp [h]) (ev_eq (ev_some _) (by simp [h]))
  have bad : ∀ (out : List Bool) (c : Bool) (s : List Int) (v : Int) (bd : Bool), Ev (fun k => peristyleref2_ReadNulls.j2 k b c out v true s bd) ([], 3) := fun out c s v bd =>
    Ev.step (fun k => by rw [peristyleref2_ReadNulls.j2]) (ev_pos rfl (ev_some _))
  induction n with
  | zero =>
    intro out c s hs hl ho hx
    exact done out c s ho (List.eq_nil_of_length_eq_zero (by omega))
  | succ n ih =>
    intro out c s hs hl ho hx
    by_cases he : s = []
    · rw [rn, if_pos he]
      exact done out c s ho he
    · rw [rn, if_neg he]
      have hp := List.length_pos_iff.2 he
      refine Ev.step (fun k => by rw [peristyleref2_ReadNulls.l0]) (ev_pos (by omega) ?_)
      refine Ev.step (fun k => by rw [peristyleref2_ReadNulls.j1]) (ev_pos (show (!false) = true from rfl) ?_)
      refine Ev.bind (rcount2_ev hx) ?_
      obtain ⟨m, hm, hm2⟩ := rc_suf 8 0 0 s
      have hv := rc_val 8 0 0 s (by omega) (by simp)
      have hm3 := (hm2 (by omega) he).2
      rw [← hm] at hm3
      have hx' : ∀ x ∈ (rc 8 0 0 s).2.1, 0 ≤ x ∧ x ≤ 255 := by
        rw [hm]
        exact fun x h => hx x (List.mem_of_mem_drop h)
      rw [w64 (by omega) (by omega)]
      cases hbd : (rc 8 0 0 s).2.2 with
      | true =>
        rw [if_pos (Or.inl rfl)]
        exact ev_pos rfl (bad _ _ _ _ _)
      | false =>
        refine ev_neg (by simp) ?_
        by_cases hbig : (rc 8 0 0 s).1 > 2000 - (out.length : Int)
        · rw [if_pos (Or.inr hbig), decide_eq_true hbig]
          exact bad _ _ _ _ _
        · rw [if_neg (by simpa using hbig), decide_eq_false hbig]
          obtain ⟨q, hq⟩ := Int.eq_ofNat_of_zero_le hv.1
          rw [hq]
          refine Ev.step (fun k => by rw [peristyleref2_ReadNulls.j2]) (ev_neg (by simp) ?_)
          refine rl1 b c _ _ _ q 0 q out (by omega) (by omega) (by omega) ?_
          simp only [Int.toNat_natCast]
          exact ih _ _ _ (by omega) (by omega) (by simp; omega) hx'
theorem rReadNulls_ev {b : List Int} (hb : ∀ x ∈ b, 0 ≤ x ∧ x ≤ 255) : Ev (fun k => peristyleref2_ReadNulls.f k b) (rnAns b) := by
  unfold peristyleref2_ReadNulls.f rnAns
  by_cases hl : b.length > 500000
  · rw [if_pos hl]
    exact ev_pos (by omega) (ev_some _)
  · rw [if_neg hl]
    refine ev_neg (by omega) ?_
    cases b with
    | nil => exact ev_pos rfl (ev_some _)
    | cons o t =>
      have ho := hb o (List.mem_cons_self ..)
      have hl' : ¬ t.length + 1 > 500000 := hl
      rw [rbyte_cons ho.1 ho.2]
      refine ev_neg (by simp; omega) (Ev.bind (ev_some _) ?_)
      exact rl0 (o :: t) _ [] _ t (Nat.le_refl _) (by omega) (by simp) (fun x hx => hb x (List.mem_cons_of_mem _ hx))

/-! ### the law -/
theorem rnAns_len (b : List Int) : (rnAns b).1.length ≤ 2000 := by
  by_cases h : (rnAns b).2 = 0
  · exact (rnAns_ok h).2
  · unfold rnAns at *
    split at h
    · rename_i hl; rw [if_pos hl]; simp
    · rename_i hl
      rw [if_neg hl]
      cases b with
      | nil => simp
      | cons o t =>
        simp only at h ⊢
        cases hr : rn t.length [] (o == 1) t with
        | none => simp [fin]
        | some l =>
          rw [hr] at h
          simp only [fin] at h ⊢
          split at h
          · simp at h
          · rename_i hn; rw [if_neg hn]; simp
theorem law_j1 {b : List Int} (hb : ∀ x ∈ b, 0 ≤ x ∧ x ≤ 255) : Ev (fun k => peristylelaw2_EncodeNullsMatchSpec.j1 k b) true := by
  refine Ev.step (fun k => by rw [peristylelaw2_EncodeNullsMatchSpec.j1]) ?_
  have hlen := rnAns_len b
  refine Ev.bind (iReadNulls_ev hb) (Ev.bind (rReadNulls_ev hb) (ev_pos rfl (Ev.bind (eqO_ev (by first | omega | (show l0.length ≤ _; omega))) ?_)))
  refine Ev.step (fun k => by rw [peristylelaw2_EncodeNullsMatchSpec.j2]) (ev_neg (by simp) ?_)
  by_cases h0 : (rnAns b).2 = 0
  · refine ev_pos h0 (Ev.bind (iNullBytes_ev _) ?_)
    have h := rnAns_ok h0
    have hn := nb_len h.2
    unfold nbAns
    rw [if_neg (by omega)]
    refine ev_pos rfl (Ev.bind (eqB_ev (by first | omega | (show (nb _).length ≤ _; omega))) (ev_pos (by simpa using h.1) (Ev.bind awake_ev (ev_some _))))
  · exact ev_neg h0 (Ev.bind awake_ev (ev_some _))
theorem encodeNullsMatchSpec_ev (l0 : List Bool) {l1 : List Int} (hb : ∀ x ∈ l1, 0 ≤ x ∧ x ≤ 255) : Ev (fun k => peristylelaw2_EncodeNullsMatchSpec.f k l0 l1) true := by
  unfold peristylelaw2_EncodeNullsMatchSpec.f
  have hn : (nbAns l0).1.length ≤ 20001 := by
    unfold nbAns
    split
    · simp
    · exact nb_len (by omega)
  refine Ev.bind (iNullBytes_ev l0) (Ev.bind (rNullBytes_ev l0) (ev_pos rfl (Ev.bind (eqB_ev (by first | omega | (show (nb _).length ≤ _; omega))) ?_)))
  refine Ev.step (fun k => by rw [peristylelaw2_EncodeNullsMatchSpec.j0]) (ev_neg (by simp) ?_)
  unfold nbAns
  by_cases hl : l0.length > 2000
  · rw [if_pos hl]
    exact ev_neg (by simp) (law_j1 hb)
  · rw [if_neg hl]
    refine ev_pos rfl (Ev.bind (iReadNulls_ev (nb_byte l0)) ?_)
    rw [rnAns_nb (by omega)]
    exact ev_pos rfl (Ev.bind (eqO_ev (by first | omega | (show l0.length ≤ _; omega))) (ev_pos (by simp) (law_j1 hb)))
end Go.Proofs.Ythhdihnaicggiaa.G
