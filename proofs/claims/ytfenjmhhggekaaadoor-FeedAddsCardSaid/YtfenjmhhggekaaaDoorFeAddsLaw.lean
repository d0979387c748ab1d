/- The law FeedAdds, of its own arguments. -/
import Derived.Test.YtfenjmhhggekaaaDoorFeAdds
import Derived.Test.YtfenjmhhggekaaaDoorFeArg
namespace Go.Sym
open Go Go.Proofs.Tryd
theorem feedAdds_law {n0 : Nat} {x0 : List PV} {n1 : Nat} {x1 : PV} (s0 : shape prog n0 53 x0) (s1 : shape prog n1 50 [x1]) : Fn prog 9 [.agg x0, x1] [] [.bool true] [] := by
  obtain ⟨f, wf, i1, i2, i3, i4, i5, i6⟩ := shape_feed s0
  obtain ⟨l, wl, ll, il⟩ := shape_changes s1
  have h := feedAdds_fn Opq.id f l i3 ll fun c hc => by
    rcases List.mem_append.1 hc with h | h
    · exact ⟨(i5 c h).1, fun x hx => ((i5 c h).2.2.2 x hx).1⟩
    · exact ⟨(il c h).1, fun x hx => ((il c h).2.2.2 x hx).1⟩
  exact h.wkA (.cons wf (.cons (.wk wl) .nil))
end Go.Sym
