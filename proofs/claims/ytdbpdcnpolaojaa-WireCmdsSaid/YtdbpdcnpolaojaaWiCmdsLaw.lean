/- The law WireCmds, of its own arguments. -/
import Derived.Test.YtdbpdcnpolaojaaWi3
import Derived.Test.YtdbpdcnpolaojaaWiArg
set_option linter.all false
set_option linter.unusedVariables false
set_option linter.unusedSimpArgs false
namespace Go.Sym
open Go Go.Proofs.Try
theorem wireCmds_law {n1 : Nat} {x1 : List PV} (s1 : shape prog n1 24 x1) : Fn prog 3 [.agg x1] [] [.bool true] [] := by
  obtain ⟨c, wc, h1, h2⟩ := shape_cmd Opq.id s1
  refine (wireCmds_fn Opq.id c h1 h2).wkA (.cons (.agg' ?_) .nil)
  exact ⟨wc.len, fun j x y p q => .wk (wc.at' j x y p q)⟩
end Go.Sym
