/- The law PaperSets, of its own arguments. -/
import Derived.Test.YtfenjmhhggekaaaDoorPaSets
import Derived.Test.YtfenjmhhggekaaaDoorPa9
namespace Go.Sym
open Go Go.Proofs.Tryd
theorem paperSets_law {n0 : Nat} {x0 : PV} {a1 : ByteArray} {n2 : Nat} {x2 : List PV} (s0 : shape prog n0 23 [x0]) (y1 : a1.data.toList.length ≤ maxLen) (s2 : shape prog n2 35 x2) : Fn prog 5 [x0, .str a1, .agg x2] [] [.bool true] [] := by
  obtain ⟨d, wd, ld, id⟩ := shape_doc s0
  obtain ⟨v, rfl, iv⟩ := shape_val s2
  have h := paperSets_fn Opq.id d a1 v (by rw [size_list] at y1; exact y1) (fun f hf => (id f hf).1) ld
  exact h.wkArgs (.cons wd (.refl _))
end Go.Sym
