/- Lists of documents: cloned, searched, with one more, without one. -/
import Derived.Test.YtjlefaabcalkkaaGreatDoorK11
set_option linter.all false
set_option linter.unusedVariables false
set_option linter.unusedSimpArgs false
namespace Go.Sym
open Go Go.Proofs.Tryz
set_option maxRecDepth 100000
theorem Nms.enc_len (O:Opq) (l:List Ndoc):(Nms.enc O l).length=l.length:=by rw[Nms.enc,List.length_map]
end Go.Sym
