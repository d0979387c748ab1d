/- Values, fields, documents; which may be. -/
import Derived.Test.YtbneclkckmdkgaaGreatDoorJ5
set_option linter.all false
set_option linter.unusedVariables false
set_option linter.unusedSimpArgs false
namespace Go.Sym
open Go
structure Val where
 kind:Int
 num:Int
 text:ByteArray
 re:Int
 im:Int
structure Field where
 path:ByteArray
 val:Val
def Val.enc (v:Val):List PV:=[.int .i64 v.kind,.int .i64 v.num,.str v.text,.int .i64 v.re,.int .i64 v.im]
def Field.enc (f:Field):List PV:=.str f.path::f.val.enc
abbrev Doc:=List Field
def Doc.enc:Doc→List (List PV):=List.map Field.enc
theorem Doc.enc_len (d:Doc):(Doc.enc d).length=d.length:=by simp [Doc.enc]
theorem emp:({ data:={ toList:=[] } }:ByteArray)=ByteArray.empty:=rfl
def isKey (s:ByteArray):Bool:=decide (1≤s.size∧s.size≤64)
def isLet (c:Int):Bool:=(decide (97≤c) && decide (c≤122)) || (decide (48≤c) && decide (c≤57))
def scan:List UInt8→Bool→Bool
 | [],w=>w
 | c::r,w=>if (c.toNat:Int)=46∧w=true then scan r false else if isLet c.toNat=true then scan r true else false
def isPath (s:ByteArray):Bool:=scan s.data.toList false && decide (s.size≤64)
theorem size_list (s:ByteArray):s.data.toList.length=s.size:=by simp [← ByteArray.size_data]
theorem scan_step {s:ByteArray} {i:Int} (h:0≤i) (h2:i<s.size) (w:Bool):scan (s.data.toList.drop i.toNat) w =
  if byteAt s i=46∧w=true then scan (s.data.toList.drop (i+1).toNat) false else if isLet (byteAt s i)=true then scan (s.data.toList.drop (i+1).toNat) true else false:=by
 have hl:i.toNat<s.data.toList.length:=by rw[size_list];omega
 rw[List.drop_eq_getElem_cons hl,show(i+1).toNat=i.toNat+1 by omega]
 simp only [scan,byteAt,List.getD_eq_getElem?_getD,List.getElem?_eq_getElem hl,Option.getD_some]
theorem scan_end {s:ByteArray} {i:Int} (h2:s.size≤i) (w:Bool):scan (s.data.toList.drop i.toNat) w=w:=by
 rw[List.drop_of_length_le]
 ·rfl
 ·rw[size_list];omega
def findI {α:Type} (p:α→Bool) (l:List α):Int:=if l.any p=true then(l.findIdx p:Int) else -1
theorem findI_at {α:Type} {p:α→Bool} {l:List α} {k:Nat} {x:α} (h:l[k]?=some x) (hp:p x=true) (hn:∀ (j:Nat) y,j<k→l[j]?=some y→p y=false):findI p l=k:=by
 obtain⟨hk,e⟩:=List.getElem?_eq_some_iff.1 h
 have ha:l.any p=true:=List.any_eq_true.2 ⟨x,List.mem_of_getElem? h,hp⟩
 rw[findI,if_pos ha,(List.findIdx_eq hk).2 ⟨by rw[e];exact hp,fun j hj=>hn j _ hj (by simp)⟩]
theorem findI_none {α:Type} {p:α→Bool} {l:List α} (hn:∀ (j:Nat) y,j<l.length→l[j]?=some y→p y=false):findI p l=-1:=by
 rw[findI,if_neg]
 intro h
 obtain⟨x,hx,hp⟩:=List.any_eq_true.1 h
 obtain⟨j,hj,rfl⟩:=List.getElem_of_mem hx
 rw[hn j _ hj (by simp)] at hp;cases hp
theorem findI_ge {α:Type} {p:α→Bool} {l:List α}:0≤findI p l ↔ l.any p=true:=by
 rw[findI];split
 ·rename_i h;simp [h]
 ·rename_i h;simp [h]
end Go.Sym
