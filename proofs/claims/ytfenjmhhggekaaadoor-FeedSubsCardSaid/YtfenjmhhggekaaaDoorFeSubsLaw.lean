/- The law FeedSubs, of its own arguments. -/
import Derived.Test.YtfenjmhhggekaaaDoorFeSubs
import Derived.Test.YtfenjmhhggekaaaDoorFeArg
set_option linter.all false
set_option linter.unusedVariables false
set_option linter.unusedSimpArgs false
namespace Go.Sym
open Go Go.Proofs.Tryd
theorem feedSubs_law {n0 : Nat} {x0 : List PV} {a1 : ByteArray} {n2 : Int} (s0 : shape prog n0 53 x0) (y1 : a1.data.toList.length ≤ maxLen) (_ : (Lit.int .i64 n2).wf = true) : Fn prog 12 [.agg x0, .str a1, .int .i64 n2] [] [.bool true] [] := by
  obtain ⟨f, wf, i1, i2, i3, i4, i5, i6⟩ := shape_feed s0
  have h := feedSubs_fn Opq.id f a1 n2 i3 (fun c hc => ⟨(i5 c hc).1, fun x hx => ((i5 c hc).2.2.2 x hx).1⟩) (by rw [size_list] at y1; exact y1)
  exact h.wkA (.cons wf (.refl _))
end Go.Sym
