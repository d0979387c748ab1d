/- The law PaperPaths, of its own arguments. -/
import Derived.Test.YtfenjmhhggekaaaDoorPaPaths
import Derived.Test.YtfenjmhhggekaaaDoorPa9
namespace Go.Sym
open Go Go.Proofs.Tryd
theorem paperPaths_law {a0 : ByteArray} {n1 : Nat} {x1 : PV} {n2 : Nat} {x2 : PV} (y0 : a0.data.toList.length ≤ maxLen) (s1 : shape prog n1 23 [x1]) (s2 : shape prog n2 23 [x2]) : Fn prog 3 [.str a0, x1, x2] [] [.bool true] [] := by
  obtain ⟨a, wa, la, ia⟩ := shape_doc s1
  obtain ⟨b, wb, lb, ib⟩ := shape_doc s2
  have h := paperPaths_fn Opq.id a0 a b (by rw [size_list] at y0; exact y0) (fun f hf => (ia f hf).1) la lb
  exact h.wkArgs (.cons (.refl _) (.cons wa (.cons wb (.refl _))))
end Go.Sym
