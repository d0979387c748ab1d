/- The laws PaperCells and PaperOf, of their own arguments. -/
import Derived.Test.YtfenjmhhggekaaaDoorCe11
set_option linter.all false
set_option linter.unusedVariables false
set_option linter.unusedSimpArgs false
namespace Go.Sym
open Go Go.Proofs.Tryd
theorem paperCells_law {n1 : Nat} {x1 : PV} (s1 : shape prog n1 23 [x1]) : Fn prog 10 [x1] [] [.bool true] [] := by
  obtain ⟨a, wa, la, ia⟩ := shape_doc s1
  have h := paperCells_fn Opq.id a (fun f hf => (ia f hf).1) la
  exact h.wkArgs (.cons wa (.refl _))
theorem paperOf_law {n1 : Nat} {x1 : List PV} (s1 : shape prog n1 64 x1) : Fn prog 7 [.agg x1] [] [.bool true] [] := by
  obtain ⟨c, wc, ic⟩ := shape_cel s1
  have h := paperOf_fn Opq.id c ic
  rw [← Cel.en_eq] at h
  refine h.wkA (.cons (.agg' ?_) .nil)
  exact ⟨wc.len, fun j x y p q => .wk (wc.at' j x y p q)⟩
end Go.Sym
