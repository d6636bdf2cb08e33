/- Packed bits: what the program's and the reference's loops leave. No conditions beyond those in each theorem. -/
import Derived.Test.YthhdihnaicggiaaCM5
namespace Go.Proofs.Ythhdihnaicggiaa.C
open Go.RowKit Go.Proofs.YthhdihnaicggiaaW.PrintWords Go.Proofs.YthhdihnaicggiaaW.PrintLast Go.Proofs.YthhdihnaicggiaaW.PrintMore
set_option linter.unusedVariables false
set_option linter.unusedSimpArgs false

theorem pow7 (r : Nat) : ((2 ^ (7 - r) : Nat) : Int) = 2 ^ (7 - r) ∧ (2 : Nat) ^ (7 - r) ≤ 128 ∧ 0 < (2 : Nat) ^ (7 - r) := by
  refine ⟨by rw [Int.natCast_pow]; rfl, ?_, Nat.pow_pos (by omega)⟩
  exact Nat.le_trans (Nat.pow_le_pow_right (by omega) (show 7 - r ≤ 7 by omega)) (by decide)
theorem pow8 {r : Nat} (h : r < 8) : (2 : Int) ^ (8 - r) = 2 * 2 ^ (7 - r) := by
  rw [show 8 - r = (7 - r) + 1 by omega, Int.pow_succ, Int.mul_comm]
theorem tmod8 (n : Nat) : Int.tmod (n : Int) 8 = ((n % 8 : Nat) : Int) := by rw [Int.tmod_eq_emod_of_nonneg (by omega)]; omega
theorem bit_of {v : Int} {c : Nat} (h0 : 0 ≤ v) (h1 : v < 9223372036854775808) (hc : c ≤ 64) : Go.bits .and .i64 (shr .i64 v (c : Int)) 1 = v / 2 ^ c % 2 := by
  unfold shr
  rw [Int.toNat_natCast, Nat.min_eq_left (show c ≤ IntKind.i64.bits from hc)]
  have hp : (0 : Int) < 2 ^ c := Int.pow_pos (by omega)
  have h2 : 0 ≤ v / 2 ^ c := Int.ediv_nonneg h0 (by omega)
  have h3 : v / 2 ^ c ≤ v := Int.ediv_le_self _ h0
  exact bits_mask .i64 63 (by decide) (fun n a b => by rw [IntKind.wrap_i64]; omega) 1 (by decide) _ h2 (by omega)
theorem or_bit {bs : List Int} (hb : ∀ b ∈ bs, 0 ≤ b ∧ b ≤ 1) {b : Int} (b0 : 0 ≤ b) (b1 : b ≤ 1) : Go.bits .or .u8 (byteN bs (bs.length / 8)) (b * 2 ^ (7 - bs.length % 8)) = byteN bs (bs.length / 8) + b * 2 ^ (7 - bs.length % 8) := by
  have hr : bs.length % 8 < 8 := Nat.mod_lt _ (by omega)
  have hB := byteN_byte hb (bs.length / 8)
  obtain ⟨p1, p2, p3⟩ := pow7 (bs.length % 8)
  have p8 := pow8 hr
  have hy : 0 ≤ b * 2 ^ (7 - bs.length % 8) ∧ b * 2 ^ (7 - bs.length % 8) ≤ 2 ^ (7 - bs.length % 8) := by
    rcases (show b = 0 ∨ b = 1 by omega) with rfl | rfl <;> simp <;> omega
  exact bits_join .u8 8 (by decide) wraps_u8 (8 - bs.length % 8) _ _ hB.1 (byteN_dvd bs).1 (by omega) hy.1 (by omega) (by omega)
theorem or_shl {bs : List Int} (hb : ∀ b ∈ bs, 0 ≤ b ∧ b ≤ 1) {b : Int} (b0 : 0 ≤ b) (b1 : b ≤ 1) : Go.bits .or .u8 (byteN bs (bs.length / 8)) (shl .u8 (b % 256) (wrap64 (7 - Int.tmod (bs.length : Int) 8))) = byteN bs (bs.length / 8) + b * 2 ^ (7 - bs.length % 8) := by
  have hr : bs.length % 8 < 8 := Nat.mod_lt _ (by omega)
  obtain ⟨p1, p2, p3⟩ := pow7 (bs.length % 8)
  have e : shl .u8 (b % 256) (wrap64 (7 - Int.tmod (bs.length : Int) 8)) = b * 2 ^ (7 - bs.length % 8) := by
    rw [tmod8, w64 (by omega) (by omega)]
    unfold shl
    rw [show (7 - ((bs.length % 8 : Nat) : Int)).toNat = 7 - bs.length % 8 by omega, Nat.min_eq_left (show 7 - bs.length % 8 ≤ IntKind.u8.bits by show 7 - bs.length % 8 ≤ 8; omega), IntKind.wrap_u8]
    rcases (show b = 0 ∨ b = 1 by omega) with rfl | rfl
    · simp
    · rw [show (1 : Int) % 256 = 1 by decide, Int.one_mul, ← p1]
      omega
  rw [e]
  exact or_bit hb b0 b1
theorem or_shr {bs : List Int} (hb : ∀ b ∈ bs, 0 ≤ b ∧ b ≤ 1) : Go.bits .or .u8 (byteN bs (bs.length / 8)) (shr .u8 128 (Int.tmod (bs.length : Int) 8)) = byteN bs (bs.length / 8) + 1 * 2 ^ (7 - bs.length % 8) := by
  have hr : bs.length % 8 < 8 := Nat.mod_lt _ (by omega)
  have e : shr .u8 128 (Int.tmod (bs.length : Int) 8) = 1 * 2 ^ (7 - bs.length % 8) := by
    rw [tmod8]
    unfold shr
    rw [Int.toNat_natCast, Nat.min_eq_left (show bs.length % 8 ≤ IntKind.u8.bits by show bs.length % 8 ≤ 8; omega)]
    have hc : bs.length % 8 = 0 ∨ bs.length % 8 = 1 ∨ bs.length % 8 = 2 ∨ bs.length % 8 = 3 ∨ bs.length % 8 = 4 ∨ bs.length % 8 = 5 ∨ bs.length % 8 = 6 ∨ bs.length % 8 = 7 := by omega
    rcases hc with h | h | h | h | h | h | h | h <;> rw [h] <;> decide
  rw [e]
  exact or_bit hb (by omega) (by omega)

/-! ### the program's -/
def grown (bs : List Int) : List Int := if bs.length % 8 = 0 then pb bs ++ [0] else pb bs
theorem grown_len (bs : List Int) : (grown bs).length = bs.length / 8 + 1 := by
  unfold grown
  split
  · rw [List.length_append, pb_len, List.length_singleton]; omega
  · rw [pb_len]; omega
theorem grown_get (bs : List Int) : (grown bs)[bs.length / 8]? = some (byteN bs (bs.length / 8)) := by
  unfold grown
  split
  · rename_i h
    rw [List.getElem?_append_right (by rw [pb_len]; omega), pb_len, show bs.length / 8 - (bs.length + 7) / 8 = 0 by omega, (byteN_dvd bs).2 h]
    rfl
  · rw [pb_get (by omega)]
theorem grown_rd (base bs : List Int) (hl : base.length ≤ 1000000000) (hb : bs.length ≤ 1000000000) : rd (base ++ grown bs) (wrap64 (((base ++ grown bs).length : Int) - 1)) = byteN bs (bs.length / 8) := by
  have h := grown_len bs
  rw [List.length_append, w64 (by omega) (by omega), show ((base.length + (grown bs).length : Nat) : Int) - 1 = ((base.length + bs.length / 8 : Nat) : Int) by omega, rdD]
  rw [List.getD, List.getElem?_append_right (by omega), Nat.add_sub_cancel_left, grown_get]
  rfl
theorem grown_set (base bs : List Int) (hl : base.length ≤ 1000000000) (hb : bs.length ≤ 1000000000) (b : Int) : (base ++ grown bs).set (wrap64 (((base ++ grown bs).length : Int) - 1)).toNat (byteN bs (bs.length / 8) + b * 2 ^ (7 - bs.length % 8)) = base ++ pb (bs ++ [b]) := by
  have h := grown_len bs
  rw [List.length_append, w64 (by omega) (by omega), show (((base.length + (grown bs).length : Nat) : Int) - 1).toNat = base.length + bs.length / 8 by omega]
  rw [List.set_append_right _ _ (by omega), Nat.add_sub_cancel_left, pb_snoc]
  rfl
theorem allbits_bit {bs : List Int} {b : Int} (hb : ∀ b ∈ bs, 0 ≤ b ∧ b ≤ 1) (b0 : 0 ≤ b) (b1 : b ≤ 1) : ∀ c ∈ bs ++ [b], 0 ≤ c ∧ c ≤ 1 := by
  intro c hc
  rcases List.mem_append.1 hc with h | h
  · exact hb c h
  · rw [List.mem_singleton.1 h]; exact ⟨b0, b1⟩
theorem packed_l1 (base : List Int) (hl : base.length ≤ 1000000000) (w : Int) (v : Int) (v0 : 0 ≤ v) (v1 : v < 9223372036854775808) (x11 : List Int) (x12 x13 : Int) (r : List Int) (c : Nat) :
    ∀ bs : List Int, (∀ b ∈ bs, 0 ≤ b ∧ b ≤ 1) → bs.length + c ≤ 1000000000 → c ≤ 64 →
    Ev (fun k => encode_packed.l0 k (base ++ pb (bs ++ bitsOf v c)) w ((bs.length + c : Nat) : Int) x11 x12 (wrap64 (x13 + 1))) r →
    Ev (fun k => encode_packed.l1 k (base ++ pb bs) w (bs.length : Int) v ((c : Int) - 1) x11 x12 x13) r := by
  induction c with
  | zero =>
    intro bs hb hbl hc h
    refine Ev.step (fun k => by rw [encode_packed.l1]) (ev_neg (by omega) ?_)
    simpa [bitsOf] using h
  | succ c ih =>
    intro bs hb hbl hc h
    have e1 : ((c + 1 : Nat) : Int) - 1 = (c : Int) := by omega
    have hbit := bit_of v0 v1 (show c ≤ 64 by omega)
    have b0 : 0 ≤ v / 2 ^ c % 2 := by omega
    have b1 : v / 2 ^ c % 2 ≤ 1 := by omega
    have hgl := grown_len bs
    have hpl := pb_len bs
    have hr : bs.length % 8 < 8 := Nat.mod_lt _ (by omega)
    have next : Ev (fun k => encode_packed.l1 k ((base ++ grown bs).set (wrap64 (((base ++ grown bs).length : Int) - 1)).toNat (Go.bits .or .u8 (rd (base ++ grown bs) (wrap64 (((base ++ grown bs).length : Int) - 1))) (shl .u8 ((Go.bits .and .i64 (shr .i64 v (c : Int)) 1) % 256) (wrap64 (7 - (Int.tmod (bs.length : Int) 8)))))) w (wrap64 ((bs.length : Int) + 1)) v (wrap64 ((c : Int) - 1)) x11 x12 x13) r := by
      rw [hbit, grown_rd base bs hl (by omega), or_shl hb b0 b1, grown_set base bs hl (by omega)]
      rw [w64 (n := (bs.length : Int) + 1) (by omega) (by omega), w64 (n := (c : Int) - 1) (by omega) (by omega)]
      have := ih (bs ++ [v / 2 ^ c % 2]) (allbits_bit hb b0 b1) (by simp; omega) (by omega) ?_
      · rw [List.length_append, List.length_singleton] at this
        exact this
      · rw [List.append_assoc, List.length_append, List.length_singleton]
        rw [show bs.length + 1 + c = bs.length + (c + 1) by omega]
        exact h
    have hlen : (base ++ grown bs).length = base.length + (bs.length / 8 + 1) := by rw [List.length_append, hgl]
    refine Ev.step (fun k => by rw [encode_packed.l1]) ?_
    rw [e1]
    refine ev_pos (by omega) ?_
    by_cases h8 : bs.length % 8 = 0
    · have hg : base ++ pb bs ++ [0] = base ++ grown bs := by unfold grown; rw [if_pos h8, List.append_assoc]
      refine ev_pos (by rw [tmod8]; omega) (ev_pos (by rw [List.length_append, hpl]; omega) ?_)
      rw [hg]
      refine Ev.bind (ev_some _) (ev_pos ?_ (ev_pos ?_ (ev_pos (by omega) (ev_pos ?_ next))))
      · rw [hlen, w64 (by omega) (by omega)]; omega
      · rw [hlen, w64 (by omega) (by omega)]; omega
      · rw [tmod8, w64 (by omega) (by omega)]; omega
    · have hg : base ++ pb bs = base ++ grown bs := by unfold grown; rw [if_neg h8]
      refine ev_neg (by rw [tmod8]; omega) ?_
      rw [hg]
      refine ev_pos ?_ (ev_pos ?_ (ev_pos (by omega) (ev_pos ?_ next)))
      · rw [hlen, w64 (by omega) (by omega)]; omega
      · rw [hlen, w64 (by omega) (by omega)]; omega
      · rw [tmod8, w64 (by omega) (by omega)]; omega
/-- All bits of numbers, each of so many. -/
def allbits (l : List Int) (w : Nat) : List Int := l.flatMap fun v => bitsOf v w
theorem allbits_len (l : List Int) (w : Nat) : (allbits l w).length = l.length * w := by
  induction l with
  | nil => simp [allbits]
  | cons v l ih =>
    unfold allbits at *
    rw [List.flatMap_cons, List.length_append, ih, bitsOf_len, List.length_cons, Nat.add_mul]
    omega
theorem allbits_bits (l : List Int) (w : Nat) : ∀ b ∈ allbits l w, 0 ≤ b ∧ b ≤ 1 := by
  intro b hb
  obtain ⟨v, _, h⟩ := List.mem_flatMap.1 hb
  exact bitsOf_bit v w b h
theorem allbits_take {l : List Int} {w i : Nat} (h : i < l.length) : allbits (l.take (i + 1)) w = allbits (l.take i) w ++ bitsOf (l.getD i 0) w := by
  unfold allbits
  rw [List.take_add_one, List.flatMap_append]
  simp [List.getD, h]
theorem packed_ev {base l : List Int} {w : Nat} (hl : base.length ≤ 1000000000) (hn : l.length ≤ 2000) (hw : w ≤ 64) (hv : ∀ v ∈ l, 0 ≤ v ∧ v < 9223372036854775808) :
    Ev (fun k => encode_packed.f k base l (w : Int)) (base ++ pb (allbits l w)) := by
  have key : ∀ d i, i ≤ l.length → l.length - i ≤ d → Ev (fun k => encode_packed.l0 k (base ++ pb (allbits (l.take i) w)) (w : Int) ((i * w : Nat) : Int) l (l.length : Int) (i : Int)) (base ++ pb (allbits l w)) := by
    intro d
    induction d with
    | zero =>
      intro i hi hd
      refine Ev.step (fun k => by rw [encode_packed.l0]) (ev_neg (by omega) ?_)
      rw [List.take_of_length_le (by omega)]
      exact ev_some _
    | succ d ih =>
      intro i hi hd
      refine Ev.step (fun k => by rw [encode_packed.l0]) ?_
      by_cases hlt : i < l.length
      · refine ev_pos (by omega) (ev_pos (by omega) (ev_pos (by omega) ?_))
        have hm : l.getD i 0 ∈ l := by
          simp only [List.getD, List.getElem?_eq_getElem hlt, Option.getD_some]
          exact List.getElem_mem hlt
        have hvi := hv _ hm
        have hmul : i * w ≤ 2000 * 64 := Nat.mul_le_mul (by omega) hw
        have hal := allbits_len (l.take i) w
        rw [List.length_take, Nat.min_eq_left hi] at hal
        rw [rdD, w64 (by omega) (by omega)]
        have := packed_l1 base hl (w : Int) (l.getD i 0) hvi.1 hvi.2 l (l.length : Int) (i : Int) (base ++ pb (allbits l w)) w (allbits (l.take i) w) (allbits_bits _ _) (by omega) hw ?_
        · rw [hal] at this
          exact this
        · rw [hal, ← allbits_take hlt, w64 (by omega) (by omega), show i * w + w = (i + 1) * w by rw [Nat.add_mul, Nat.one_mul]]
          exact ih (i + 1) (by omega) (by omega)
      · refine ev_neg (by omega) ?_
        rw [List.take_of_length_le (by omega)]
        exact ev_some _
  have := key l.length 0 (by omega) (by omega)
  simpa [allbits, pb, encode_packed.f] using this

end Go.Proofs.Ythhdihnaicggiaa.C
