/- Folds by the document; alike. -/
import Derived.Test.YthaaoongjcmleaaGreatDoorK1
import Derived.Test.YthaaoongjcmleaaGreatDoorK15
set_option linter.all false
set_option linter.unusedVariables false
set_option linter.unusedSimpArgs false
namespace Go.Sym
open Go Go.Proofs.Tryz
set_option maxRecDepth 100000
theorem Nms.snoc (O:Opq) (l:List Ndoc) (k:ByteArray) (d:Doc):O.o (Nms.enc O) (l++[⟨k,d⟩])=O.o (Nms.enc O) l++[[.str k,.sl false 0 false 6 (O.o Doc.enc d)]]:=by
 simp only [O.h (Nms.enc O)];simp [Nms.enc,Ndoc.enc]
end Go.Sym
