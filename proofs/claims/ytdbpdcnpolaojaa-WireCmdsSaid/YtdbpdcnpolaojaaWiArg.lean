/- Arguments that are commands. -/
import Derived.Test.YtdbpdcnpolaojaaShB
import Derived.Test.YtdbpdcnpolaojaaWiA
set_option linter.all false
set_option linter.unusedVariables false
set_option linter.unusedSimpArgs false
namespace Go.Sym
open Go Go.Proofs Go.Proofs.Try
set_option maxRecDepth 10000
theorem cWi0 : prog.cellsOf 24 = 6 := by decide +kernel
theorem cWi1 : prog.cellsOf 22 = 1 := by decide +kernel
theorem shape_ints {O : Opq} {n : Nat} {x : PV} (h : shape prog n 22 [x]) : ∃ l : List Int, Wk (.sl false 0 false 1 (O.o Ints.enc l)) x ∧ l.length ≤ 9223372036854775807 := by
  cases n with
  | zero => exact h.elim
  | succ n =>
    simp only [shape, Try.underlying22, c3] at h
    rcases h with h | ⟨rows, h, hl, hr⟩
    · cases h
      exact ⟨[], by rw [O.h]; exact .nil _ _, by simp⟩
    · cases h
      obtain ⟨l, rfl, _⟩ := rows_of (e := fun x : Int => [PV.int .i64 x]) (In := inI) (fun r hr => shape_int hr) hr
      refine ⟨l, ?_, by simpa [maxLen] using hl⟩
      rw [O.h]; exact .sl' rfl rfl (.refl _)
theorem shape_cmd (O : Opq) {n : Nat} {xs : List PV} (h : shape prog n 24 xs) : ∃ c : WCmd, WkL (c.enc O) xs ∧ c.nodes.length ≤ 9223372036854775807 ∧ c.defn.size ≤ 9223372036854775807 := by
  cases n with
  | zero => exact h.elim
  | succ n =>
    simp only [shape, Try.underlying24, List.forall_mem_cons, List.not_mem_nil, false_imp_iff, implies_true, and_true, cWi0, cWi1, c9, c3] at h
    obtain ⟨hl, h1, h2, h3, h4, h5, h6⟩ := h
    match xs, hl with
    | [x, y, z, u, v, w], _ =>
    obtain ⟨a, ea, _⟩ := shape_int (xs := [x]) h1
    obtain ⟨b, eb, _⟩ := shape_int (xs := [y]) h2
    obtain ⟨c, ec, _⟩ := shape_int (xs := [z]) h3
    obtain ⟨d, ed, _⟩ := shape_int (xs := [u]) h4
    obtain ⟨t, et, it⟩ := shape_str (xs := [v]) h5
    obtain ⟨l, hw, hll⟩ := shape_ints (O := O) (x := w) h6
    cases ea; cases eb; cases ec; cases ed; cases et
    exact ⟨⟨a, b, c, d, t, l⟩, .cons (.refl _) (.cons (.refl _) (.cons (.refl _) (.cons (.refl _) (.cons (.refl _) (.cons hw (.refl _)))))), hll, it⟩
end Go.Sym
