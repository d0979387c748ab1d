/- What comes of anything that is asked, as the program and the document tell it: all cases in one. -/
import Derived.Test.YthaaoongjcmleaaGreatDoorK18
import Derived.Test.YthaaoongjcmleaaGreatDoorK7
import Derived.Test.YthaaoongjcmleaaGreatDoorK8
import Derived.Test.YthaaoongjcmleaaGreatDoorK9
import Derived.Test.YthaaoongjcmleaaGreatDoorK10
set_option linter.all false
set_option linter.unusedVariables false
set_option linter.unusedSimpArgs false
namespace Go.Sym
open Go Go.Proofs.Tryz
set_option maxRecDepth 100000
structure SmallO (o:Opn) (m:Nat):Prop where
 doc:o.doc.length≤m
 want:o.want.length≤m
 list:∀ x∈o.list,x.doc.length≤m∧x.want.length≤m
 len:o.list.length≤1000000000
theorem apply_ok (O:Opq) (l:List Ndoc) (o:Opn) (total:Int) (hm:mayD l=true) (ht:0≤total∧total≤2147483643) (hs:SmallO o 1099511627) (R1:List Ndoc) (R2:Answer) (R3:List Change) (hR:applyR l o total=(R1,R2,R3))
  : Fn prog 92 [.sl false 0 false 2 (O.o (Nms.enc O) l),.agg (o.en O),.int .i64 total] [] [.sl false 0 false 2 (O.o (Nms.enc O) R1),.agg (R2.enc O),.sl false 0 false 4 (O.o (Chs.enc O) R3),.int .i64 0] []:=by
 have e0:O.o (Chs.enc O) []=[]:=by rw[O.h];rfl
 rw[applyR] at hR
 by_cases hw:writesB o=true
 ·rw[if_pos hw] at hR
  exact apply_one O l o total hm ht hw ⟨hs.doc,hs.want⟩ R1 R2 R3 hR
 ·rw[if_neg hw] at hR
  by_cases h6:o.kind=6
  ·rw[if_pos h6] at hR
   exact apply_more O l o total hm ht h6 hs.list (Nat.le_trans hs.len (by decide)) R1 R2 R3 hR
  ·rw[if_neg h6] at hR
   by_cases h5:o.kind=5
   ·rw[if_pos h5] at hR
    cases hR
    have:=apply_scan O l o total hm ht h5 trivial
    rw[show O.o (scanA l) o=scanA l o by rw[O.h]] at this
    rw[e0];exact this
   ·rw[if_neg h5] at hR
    by_cases h4:o.kind=4∧isKey o.key=true
    ·rw[if_pos h4] at hR
     cases hR
     have:=apply_get O l o total hm ht h4.1 h4.2 trivial
     rw[show O.o (standA l) o.key=standA l o.key by rw[O.h]] at this
     rw[e0];exact this
    ·rw[if_neg h4] at hR
     cases hR
     have hn:¬ (o.kind=1∨o.kind=2∨o.kind=3):=by simpa [writesB] using hw
     rw[e0]
     exact apply_no O l o total hm ht ⟨fun e=>hn (.inl e),fun e=>hn (.inr (.inl e)),fun e=>hn (.inr (.inr e)),h5,h6,fun e=>by
      cases hk:isKey o.key with
      | false=>rfl
      | true=>exact absurd ⟨e,hk⟩ h4⟩ trivial
end Go.Sym
