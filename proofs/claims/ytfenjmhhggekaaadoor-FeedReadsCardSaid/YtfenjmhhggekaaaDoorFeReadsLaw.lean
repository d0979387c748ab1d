/- The law FeedReads, of its own arguments. -/
import Derived.Test.YtfenjmhhggekaaaDoorFeReads
import Derived.Test.YtfenjmhhggekaaaDoorFeArg
set_option linter.all false
set_option linter.unusedVariables false
set_option linter.unusedSimpArgs false
namespace Go.Sym
open Go Go.Proofs Go.Proofs.Tryd
set_option maxRecDepth 10000
theorem cFe7 : prog.cellsOf 54 = 2 := by decide +kernel
theorem shape_two {n : Nat} {xs : List PV} (h : shape prog n 54 xs) : ∃ a m : Int, xs = [.int .i64 a, .int .i64 m] := by
  cases n with
  | zero => exact h.elim
  | succ n =>
    simp only [shape, Tryd.underlying54, cFe7, c3] at h
    obtain ⟨hl, hs⟩ := h
    match xs, hl with
    | [x, y], _ =>
    obtain ⟨a, ea, _⟩ := shape_int (xs := [x]) (hs 0 (by omega))
    obtain ⟨b, eb, _⟩ := shape_int (xs := [y]) (hs 1 (by omega))
    cases ea; cases eb
    exact ⟨a, b, rfl⟩
theorem feedReads_law {n0 : Nat} {x0 : List PV} {a1 : ByteArray} {n2 : Nat} {x2 : List PV} (s0 : shape prog n0 53 x0) (y1 : a1.data.toList.length ≤ maxLen) (s2 : shape prog n2 54 x2) : Fn prog 6 [.agg x0, .str a1, .agg x2] [] [.bool true] [] := by
  obtain ⟨f, wf, i1, i2, i3, i4, i5, i6⟩ := shape_feed s0
  obtain ⟨a, m, rfl⟩ := shape_two s2
  have h := feedReads_fn Opq.id f a1 a m i3 (fun c hc => ⟨(i5 c hc).1, fun x hx => ((i5 c hc).2.2.2 x hx).1⟩) (by rw [size_list] at y1; exact y1)
  exact h.wkA (.cons wf (.refl _))
end Go.Sym
