/- Arguments: numbers, texts. -/
import Derived.Test.YtdbpdcnpolaojaaBase
import Derived.Test.YtdbpdcnpolaojaaPaD
import Derived.Test.YtdbpdcnpolaojaaSymJoined3
set_option linter.all false
set_option linter.unusedVariables false
set_option linter.unusedSimpArgs false
namespace Go.Sym
open Go Go.Proofs Go.Proofs.Try
set_option maxRecDepth 10000
theorem shape_str {n : Nat} {xs : List PV} (h : shape prog n 9 xs) : ∃ s : ByteArray, xs = [.str s] ∧ s.size ≤ 9223372036854775807 := by
  cases n with
  | zero => exact h.elim
  | succ n => simp only [shape, Try.underlying9] at h; exact h
theorem shape_int {n : Nat} {xs : List PV} (h : shape prog n 3 xs) : ∃ m : Int, xs = [.int .i64 m] ∧ -9223372036854775808 ≤ m ∧ m ≤ 9223372036854775807 := by
  cases n with
  | zero => exact h.elim
  | succ n =>
    simp only [shape, Try.underlying3] at h
    obtain ⟨m, rfl, hm⟩ := h
    refine ⟨m, rfl, ?_⟩
    simp only [Lit.wf, Bool.and_eq_true, decide_eq_true_eq] at hm
    exact hm
def inI (m : Int) : Prop := -9223372036854775808 ≤ m ∧ m ≤ 9223372036854775807
def inS (s : ByteArray) : Prop := s.size ≤ 9223372036854775807
theorem c3 : prog.cellsOf 3 = 1 := by decide +kernel
theorem c9 : prog.cellsOf 9 = 1 := by decide +kernel
/-- a slice's rows, each of them data -/
theorem rows_of {α : Type} {e : α → List PV} {In : α → Prop} {Q : List PV → Prop} (hq : ∀ r, Q r → ∃ a, r = e a ∧ In a) : ∀ {rows : List (List PV)}, (∀ r ∈ rows, Q r) → ∃ l : List α, rows = l.map e ∧ ∀ a ∈ l, In a
  | [], _ => ⟨[], rfl, by simp⟩
  | r :: rows, h => by
    obtain ⟨a, ha, ia⟩ := hq r (h r (by simp))
    obtain ⟨l, hl, il⟩ := rows_of (rows := rows) hq fun r hr => h r (List.mem_cons_of_mem _ hr)
    exact ⟨a :: l, by simp [ha, hl], by simpa using ⟨ia, il⟩⟩
end Go.Sym
