/- The law DepotReads, of its own arguments. -/
import Derived.Test.YtfkigahipkndgaaGreatDoorDe17
import Derived.Test.YtfkigahipkndgaaGreatDoorDeLawsA
set_option linter.all false
set_option linter.unusedVariables false
set_option linter.unusedSimpArgs false
namespace Go.Sym
open Go Go.Proofs.Tryz
theorem depotReads_law {n1:Nat} {x1:List PV} {n2:Nat} {x2:List PV} (s1:shape prog n1 65 x1) (s2:shape prog n2 70 x2):Fn prog 8 [.agg x1,.agg x2] [] [.bool true] []:=by
 obtain⟨d,wd,hd⟩:=shape_depot s1
 obtain⟨q,wq,hq⟩:=shape_reqn s2
 have h:=depotReads_fn Opq.id d q (Depot.arg hd)
 rw[Reqn.en_eq] at h
 exact h.wkA (.cons wd.aggA (.cons wq.aggA .nil))
end Go.Sym
