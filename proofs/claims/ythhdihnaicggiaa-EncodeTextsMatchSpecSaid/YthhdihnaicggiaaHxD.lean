/- Small laws between the printed words and the shelf's. No conditions beyond those in each theorem. -/
import Derived.Test.YthhdihnaicggiaaDSh
import Derived.Test.YthhdihnaicggiaaDV
import Derived.Sort.OwnSortedInts
import Derived.Lib.SlicesCompact
import Derived.Sort.Walk0
namespace Go.Proofs.Ythhdihnaicggiaa.D
open Go.RowKit Go.Proofs.YthhdihnaicggiaaW.PrintWords Go.Proofs.YthhdihnaicggiaaW.PrintLast Go.Proofs.YthhdihnaicggiaaW.PrintMore
/-- Bit p of bytes, the highest bit of each first. -/
def bitAt (s : List Int) (p : Nat) : Int := Go.bits .and .u8 (shr .u8 (rd s ((p / 8 : Nat) : Int)) ((7 - p % 8 : Nat) : Int)) 1
/-- The number of so many bits from bit p on, the highest first. -/
def bitsVal (s : List Int) (p : Nat) : Nat → Int
  | 0 => 0
  | w + 1 => wrap64 (wrap64 (2 * bitsVal s p w) + wrap64 (bitAt s (p + w)))
/-- So many numbers of so many bits each. -/
def bitsUp (s : List Int) (m w : Nat) : List Int := (List.range m).map fun i => bitsVal s (i * w) w
/-- A row that is read, at its address. -/
theorem C_addr {α : Type} {enc : α → Value} {h1 : ∀ x, (enc x).oneCell' = true} {w : World} {A : Option Addr} {n : Nat} {xs : List α} {z : α} (h : (Kd.scalar enc h1).C w A n xs) (hn : 0 < n) :
    ∃ b off, A = some ⟨b, off, none⟩ ∧ ∀ j, j < xs.length → w.cell? ⟨b, off + j, none⟩ = some (enc (xs.getD j z)) := by
  obtain ⟨ad, rfl, hc⟩ := (Kd.reads_of_C (d := z) h).2.2 hn
  obtain ⟨b, off, sp⟩ := ad
  have h0 := hc 0 hn
  have hs : sp = none := by
    cases sp with
    | none => rfl
    | some s =>
      simp only [World.cell?, Addr.add] at h0
      split at h0 <;> simp at h0
  subst hs
  refine ⟨b, off, rfl, fun j hj => ?_⟩
  have := hc j (by have := h.1; omega)
  by_cases hj0 : j = 0
  · subst hj0
    simpa [Addr.add] using this
  · simpa [Addr.add, hj0] using this
/-- What stands behind the first m of a row that is read. -/
theorem C_from {α : Type} {enc : α → Value} {h1 : ∀ x, (enc x).oneCell' = true} {w : World} {b off : Nat} {xs : List α} {z : α} (hl : xs.length ≤ 9223372036854775807) (hc : ∀ j, j < xs.length → w.cell? ⟨b, off + j, none⟩ = some (enc (xs.getD j z))) (m : Nat) :
    (Kd.scalar enc h1).C w (some ⟨b, off + m, none⟩) (xs.drop m).length (xs.drop m) := by
  refine Kd.C_of_reads (d := z) ⟨rfl, by rw [List.length_drop]; omega, fun hn => ⟨_, rfl, fun j hj => ?_⟩⟩
  rw [List.length_drop] at hj
  have := hc (m + j) (by omega)
  have e : (xs.drop m).getD j z = xs.getD (m + j) z := by simp [List.getD, List.getElem?_drop]
  have e2 : (⟨b, off + m, none⟩ : Addr).add j = ⟨b, off + (m + j), none⟩ := by
    unfold Addr.add
    by_cases hj0 : j = 0
    · subst hj0
      rfl
    · rw [if_neg hj0, Nat.add_assoc]
  rw [e, e2]
  exact this
theorem compact_length_le {α : Type} [Inhabited α] [DecidableEq α] (zs : List α) : (Lib.compact zs).length ≤ zs.length := by
  unfold Lib.compact Lib.compactUpTo
  rw [List.length_map]
  exact Nat.le_trans (List.length_filter_le _ _) (by simp)
/-- Comparisons of strings, each by 'less' alone. -/
theorem bl_tot (x y : List UInt8) : (Op.bytesLess x y || x == y) = !(Op.bytesLess y x) := by
  rw [bytesLess_eq, bytesLess_eq]
  by_cases h : x < y
  · simp [h, List.lt_asymm h]
  · by_cases e : x = y
    · subst e; simp [h]
    · have h2 : y < x := by
        rcases Classical.em (y < x) with h1 | h1
        · exact h1
        · exact absurd (List.le_antisymm (List.not_lt.1 h1) (List.not_lt.1 h)) e
      simp [h, e, h2]
theorem gtr_str (t : TypeId) (a b : ByteArray) : binOp .gtr t (.string a) (.string b) = pure (.bool (Op.bytesLess b.toList a.toList)) := by
  have h := bl_tot a.toList b.toList
  simp only [binOp, Op.stringOp]
  rw [h, Bool.not_not]
theorem leq_str (t : TypeId) (a b : ByteArray) : binOp .leq t (.string a) (.string b) = pure (.bool (!(Op.bytesLess b.toList a.toList))) := by
  have h := bl_tot a.toList b.toList
  simp only [binOp, Op.stringOp]
  rw [h]
theorem geq_str (t : TypeId) (a b : ByteArray) : binOp .geq t (.string a) (.string b) = pure (.bool (!(Op.bytesLess a.toList b.toList))) := by
  simp [binOp, Op.stringOp]
theorem Ak {p : Prop} (h : p) : Aside0 p := Aside0.mk h
theorem lm {α β : Type} {f : α → β} {l : List α} : Array.map f l.toArray = (List.map f l).toArray := List.map_toArray
end Go.Proofs.Ythhdihnaicggiaa.D
