/- The law DepotApplies, of its own arguments. -/
import Derived.Test.YtfkigahipkndgaaGreatDoorK30
set_option linter.all false
set_option linter.unusedVariables false
set_option linter.unusedSimpArgs false
namespace Go.Sym
open Go Go.Proofs.Tryz
theorem Depot.arg {d:Depot} (h:d.In):DepArg d:=by
 obtain⟨⟨a1,a2⟩,⟨i1,i2,i3,i4,i5,i6⟩,b1,b2⟩:=h
 exact⟨⟨a1,fun n hn=>Doc.paths (a2 n hn).2.2⟩,⟨i3,fun c hc=>⟨(i5 c hc).1,fun x hx=>((i5 c hc).2.2.2 x hx).1⟩⟩,fun x hx=>by
  obtain⟨_,_,h⟩:=b2 x hx
  obtain⟨_,_,hd,hn,_⟩:=h
  exact⟨hd.1,hn.1⟩⟩
theorem depotApplies_law {n1:Nat} {x1:List PV} {n2:Nat} {x2:List PV} (s1:shape prog n1 65 x1) (s2:shape prog n2 70 x2):Fn prog 9 [.agg x1,.agg x2] [] [.bool true] []:=by
 obtain⟨d,wd,hd⟩:=shape_depot s1
 obtain⟨q,wq,hq⟩:=shape_reqn s2
 have h:=depotApplies_fn Opq.id d q (Depot.arg hd) (Opn.paths hq.2.2)
 rw[Reqn.en_eq] at h
 exact h.wkA (.cons wd.aggA (.cons wq.aggA .nil))
end Go.Sym
