/- The seat's own types, read as data. No conditions. -/
import Derived.Test.YtegehjfbdmbfpaaRd
import Derived.Test.YtegehjfbdmbfpaaG0
import Derived.KernelRfl
namespace Go.Proofs.Ytegehjfbdmbfpaa.G
open Go.Proofs.YtegehjfbdmbfpaaR Go.Proofs.YtegehjfbdmbfpaaW.PrintWords
set_option linter.unusedVariables false
def g23 (x : S23) : Prop := (fun n : Int => (Lit.int .i64 n).wf = true) x.f0 ∧ (fun n : Int => (Lit.int .i64 n).wf = true) x.f1 ∧ (fun s : ByteArray => s.size ≤ maxLen) x.f2
theorem rd23 : Rd Try.prog 23 k23 g23 where
  cells := by kernel_rfl
  down := fun h => by
    obtain ⟨xs, n, _, _, hl, hlen, hg⟩ := DataW.trod_struct Try.underlying23 h
    have hl' : _ = 3 := hl.trans (by kernel_rfl)
    obtain ⟨y0, hy0⟩ : ∃ y, xs[0]? = some y := ⟨_, List.getElem?_eq_getElem (by rw [hlen]; decide)⟩
    obtain ⟨a0, c0, q0⟩ := (Rd.int Try.underlying3 (by kernel_rfl)).down ((hg 0 _ rfl).trans hy0)
    replace c0 : (Kd.int .i64).K _ a0 (List.take (Try.prog.cellsOf 3) (List.drop 0 _)) := c0
    rw [(Rd.int Try.underlying3 (by kernel_rfl)).cells] at c0
    obtain ⟨y1, hy1⟩ : ∃ y, xs[1]? = some y := ⟨_, List.getElem?_eq_getElem (by rw [hlen]; decide)⟩
    obtain ⟨a1, c1, q1⟩ := (Rd.int Try.underlying3 (by kernel_rfl)).down ((hg 1 _ rfl).trans hy1)
    replace c1 : (Kd.int .i64).K _ a1 (List.take (Try.prog.cellsOf 3) (List.drop 1 _)) := c1
    rw [(Rd.int Try.underlying3 (by kernel_rfl)).cells] at c1
    obtain ⟨y2, hy2⟩ : ∃ y, xs[2]? = some y := ⟨_, List.getElem?_eq_getElem (by rw [hlen]; decide)⟩
    obtain ⟨a2, c2, q2⟩ := (Rd.string Try.underlying9 (by kernel_rfl)).down ((hg 2 _ rfl).trans hy2)
    replace c2 : Kd.string.K _ a2 (List.take (Try.prog.cellsOf 9) (List.drop 2 _)) := c2
    rw [(Rd.string Try.underlying9 (by kernel_rfl)).cells] at c2
    exact ⟨⟨a0, a1, a2⟩, (pair_at c0 (pair_at c1 (last_at (by rw [hl']; rfl) c2))), ⟨q0, q1, q2⟩⟩
def g25 (x : S25) : Prop := (fun n : Int => (Lit.int .i64 n).wf = true) x.f0 ∧ (fun n : Int => (Lit.int .i64 n).wf = true) x.f1 ∧ (fun n : Int => (Lit.int .i64 n).wf = true) x.f2 ∧ g23 x.f3 ∧ g23 x.f4
theorem rd25 : Rd Try.prog 25 k25 g25 where
  cells := by kernel_rfl
  down := fun h => by
    obtain ⟨xs, n, _, _, hl, hlen, hg⟩ := DataW.trod_struct Try.underlying25 h
    have hl' : _ = 9 := hl.trans (by kernel_rfl)
    obtain ⟨y0, hy0⟩ : ∃ y, xs[0]? = some y := ⟨_, List.getElem?_eq_getElem (by rw [hlen]; decide)⟩
    obtain ⟨a0, c0, q0⟩ := (Rd.int Try.underlying3 (by kernel_rfl)).down ((hg 0 _ rfl).trans hy0)
    replace c0 : (Kd.int .i64).K _ a0 (List.take (Try.prog.cellsOf 3) (List.drop 0 _)) := c0
    rw [(Rd.int Try.underlying3 (by kernel_rfl)).cells] at c0
    obtain ⟨y1, hy1⟩ : ∃ y, xs[1]? = some y := ⟨_, List.getElem?_eq_getElem (by rw [hlen]; decide)⟩
    obtain ⟨a1, c1, q1⟩ := (Rd.int Try.underlying3 (by kernel_rfl)).down ((hg 1 _ rfl).trans hy1)
    replace c1 : (Kd.int .i64).K _ a1 (List.take (Try.prog.cellsOf 3) (List.drop 1 _)) := c1
    rw [(Rd.int Try.underlying3 (by kernel_rfl)).cells] at c1
    obtain ⟨y2, hy2⟩ : ∃ y, xs[2]? = some y := ⟨_, List.getElem?_eq_getElem (by rw [hlen]; decide)⟩
    obtain ⟨a2, c2, q2⟩ := (Rd.int Try.underlying3 (by kernel_rfl)).down ((hg 2 _ rfl).trans hy2)
    replace c2 : (Kd.int .i64).K _ a2 (List.take (Try.prog.cellsOf 3) (List.drop 2 _)) := c2
    rw [(Rd.int Try.underlying3 (by kernel_rfl)).cells] at c2
    obtain ⟨y3, hy3⟩ : ∃ y, xs[3]? = some y := ⟨_, List.getElem?_eq_getElem (by rw [hlen]; decide)⟩
    obtain ⟨a3, c3, q3⟩ := rd23.down ((hg 3 _ rfl).trans hy3)
    replace c3 : k23.K _ a3 (List.take (Try.prog.cellsOf 23) (List.drop 3 _)) := c3
    rw [rd23.cells] at c3
    obtain ⟨y4, hy4⟩ : ∃ y, xs[4]? = some y := ⟨_, List.getElem?_eq_getElem (by rw [hlen]; decide)⟩
    obtain ⟨a4, c4, q4⟩ := rd23.down ((hg 4 _ rfl).trans hy4)
    replace c4 : k23.K _ a4 (List.take (Try.prog.cellsOf 23) (List.drop 6 _)) := c4
    rw [rd23.cells] at c4
    exact ⟨⟨a0, a1, a2, a3, a4⟩, (pair_at c0 (pair_at c1 (pair_at c2 (pair_at c3 (last_at (by rw [hl']; rfl) c4))))), ⟨q0, q1, q2, q3, q4⟩⟩
def g27 (x : S27) : Prop := (fun n : Int => (Lit.int .i64 n).wf = true) x.f0 ∧ (fun n : Int => (Lit.int .i64 n).wf = true) x.f1 ∧ g23 x.f2
theorem rd27 : Rd Try.prog 27 k27 g27 where
  cells := by kernel_rfl
  down := fun h => by
    obtain ⟨xs, n, _, _, hl, hlen, hg⟩ := DataW.trod_struct Try.underlying27 h
    have hl' : _ = 5 := hl.trans (by kernel_rfl)
    obtain ⟨y0, hy0⟩ : ∃ y, xs[0]? = some y := ⟨_, List.getElem?_eq_getElem (by rw [hlen]; decide)⟩
    obtain ⟨a0, c0, q0⟩ := (Rd.int Try.underlying3 (by kernel_rfl)).down ((hg 0 _ rfl).trans hy0)
    replace c0 : (Kd.int .i64).K _ a0 (List.take (Try.prog.cellsOf 3) (List.drop 0 _)) := c0
    rw [(Rd.int Try.underlying3 (by kernel_rfl)).cells] at c0
    obtain ⟨y1, hy1⟩ : ∃ y, xs[1]? = some y := ⟨_, List.getElem?_eq_getElem (by rw [hlen]; decide)⟩
    obtain ⟨a1, c1, q1⟩ := (Rd.int Try.underlying3 (by kernel_rfl)).down ((hg 1 _ rfl).trans hy1)
    replace c1 : (Kd.int .i64).K _ a1 (List.take (Try.prog.cellsOf 3) (List.drop 1 _)) := c1
    rw [(Rd.int Try.underlying3 (by kernel_rfl)).cells] at c1
    obtain ⟨y2, hy2⟩ : ∃ y, xs[2]? = some y := ⟨_, List.getElem?_eq_getElem (by rw [hlen]; decide)⟩
    obtain ⟨a2, c2, q2⟩ := rd23.down ((hg 2 _ rfl).trans hy2)
    replace c2 : k23.K _ a2 (List.take (Try.prog.cellsOf 23) (List.drop 2 _)) := c2
    rw [rd23.cells] at c2
    exact ⟨⟨a0, a1, a2⟩, (pair_at c0 (pair_at c1 (last_at (by rw [hl']; rfl) c2))), ⟨q0, q1, q2⟩⟩
end Go.Proofs.Ytegehjfbdmbfpaa.G
