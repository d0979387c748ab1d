/- The law DepotFolds, of its own arguments. -/
import Derived.Test.YtfkigahipkndgaaGreatDoorDe18
set_option linter.all false
set_option linter.unusedVariables false
set_option linter.unusedSimpArgs false
namespace Go.Sym
open Go Go.Proofs.Tryz
theorem depotFolds_law {n1:Nat} {x1:PV} (s1:shape prog n1 58 [x1]):Fn prog 7 [x1] [] [.bool true] []:=by
 obtain⟨l,wl,l1,l2⟩:=shape_reqns s1
 have h:=depotFolds_fn Opq.id l l1
 have e:Opq.id.o (Reqs.enc Opq.id) l=l.map (Reqn.ens Opq.id):=List.map_congr_left fun q _=>Reqn.en_eq Opq.id q
 rw[e] at h
 exact h.wkA (.cons (.wk wl) .nil)
end Go.Sym
