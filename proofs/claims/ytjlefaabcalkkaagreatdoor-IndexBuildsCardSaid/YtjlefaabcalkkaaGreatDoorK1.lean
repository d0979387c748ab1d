/- Values, fields, documents; which may be. -/
import Derived.Test.YtjlefaabcalkkaaGreatDoorJ5
import Derived.Lib.Bytealg
import Derived.Lib.SlTrimSet
import Derived.Lib.IndexLaws
set_option linter.all false
set_option linter.unusedVariables false
set_option linter.unusedSimpArgs false
namespace Go.Sym
open Go
structure Val where
 kind:Int
 num:Int
 text:ByteArray
 re:Int
 im:Int
structure Field where
 path:ByteArray
 val:Val
def Val.enc (v:Val):List PV:=[.int .i64 v.kind,.int .i64 v.num,.str v.text,.int .i64 v.re,.int .i64 v.im]
def Field.enc (f:Field):List PV:=.str f.path::f.val.enc
abbrev Doc:=List Field
def Doc.enc:Doc→List (List PV):=List.map Field.enc
theorem Doc.enc_len (d:Doc):(Doc.enc d).length=d.length:=by simp [Doc.enc]
theorem emp:({ data:={ toList:=[] } }:ByteArray)=ByteArray.empty:=rfl
def Val.Ok (v:Val):Prop :=
 (v.kind=1∧v.text=ByteArray.empty∧v.re=0∧v.im=0∧-9007199254740992≤v.num∧v.num≤9007199254740992) ∨
 (v.kind=3∧v.num=0∧v.text=ByteArray.empty∧-1048576≤v.re∧v.re≤1048576∧-1048576≤v.im∧v.im≤1048576) ∨
 (v.kind=2∧v.num=0∧v.re=0∧v.im=0∧v.text.size≤256)
open Classical in
noncomputable def Val.err (v:Val):Int:=if v.kind=2∧256<v.text.size then 3 else if v.Ok then 0 else 1
theorem Val.err_ok {v:Val}:v.err=0 ↔ v.Ok:=by
 unfold Val.err
 split
 ·rename_i h;simp [Val.Ok];omega
 ·split<;>simp_all
def numV (n:Int):Val:=⟨1,n,ByteArray.empty,0,0⟩
def textV (s:ByteArray):Val:=⟨2,0,s,0,0⟩
def pointV (a b:Int):Val:=⟨3,0,ByteArray.empty,a,b⟩
def isPart (n:Int):Bool:=decide (-1048576≤n∧n≤1048576)
def isKey (s:ByteArray):Bool:=decide (1≤s.size∧s.size≤64)
def isLet (c:Int):Bool:=(decide (97≤c) && decide (c≤122)) || (decide (48≤c) && decide (c≤57))
def scan:List UInt8→Bool→Bool
 | [],w=>w
 | c::r,w=>if (c.toNat:Int)=46∧w=true then scan r false else if isLet c.toNat=true then scan r true else false
def isPath (s:ByteArray):Bool:=scan s.data.toList false && decide (s.size≤64)
theorem size_list (s:ByteArray):s.data.toList.length=s.size:=by simp [← ByteArray.size_data]
theorem scan_step {s:ByteArray} {i:Int} (h:0≤i) (h2:i<s.size) (w:Bool):scan (s.data.toList.drop i.toNat) w =
  if byteAt s i=46∧w=true then scan (s.data.toList.drop (i+1).toNat) false else if isLet (byteAt s i)=true then scan (s.data.toList.drop (i+1).toNat) true else false:=by
 have hl:i.toNat<s.data.toList.length:=by rw[size_list];omega
 rw[List.drop_eq_getElem_cons hl,show(i+1).toNat=i.toNat+1 by omega]
 simp only [scan,byteAt,List.getD_eq_getElem?_getD,List.getElem?_eq_getElem hl,Option.getD_some]
theorem scan_end {s:ByteArray} {i:Int} (h2:s.size≤i) (w:Bool):scan (s.data.toList.drop i.toNat) w=w:=by
 rw[List.drop_of_length_le]
 ·rfl
 ·rw[size_list];omega
def okAt (d:Doc) (i:Nat):Prop:=∃ f,d[i]?=some f∧isPath f.path=true∧f.val.Ok∧(0<i→∃ g,d[i-1]?=some g∧slt g.path f.path)
open Classical in
noncomputable def may (d:Doc):Bool:=decide (d.length≤16∧∀ i,i<d.length→okAt d i)
noncomputable def docErr (d:Doc):Int:=if may d=true then 0 else 1
def findI {α:Type} (p:α→Bool) (l:List α):Int:=if l.any p=true then(l.findIdx p:Int) else -1
theorem findI_at {α:Type} {p:α→Bool} {l:List α} {k:Nat} {x:α} (h:l[k]?=some x) (hp:p x=true) (hn:∀ (j:Nat) y,j<k→l[j]?=some y→p y=false):findI p l=k:=by
 obtain⟨hk,e⟩:=List.getElem?_eq_some_iff.1 h
 have ha:l.any p=true:=List.any_eq_true.2 ⟨x,List.mem_of_getElem? h,hp⟩
 rw[findI,if_pos ha,(List.findIdx_eq hk).2 ⟨by rw[e];exact hp,fun j hj=>hn j _ hj (by simp)⟩]
theorem findI_none {α:Type} {p:α→Bool} {l:List α} (hn:∀ (j:Nat) y,j<l.length→l[j]?=some y→p y=false):findI p l=-1:=by
 rw[findI,if_neg]
 intro h
 obtain⟨x,hx,hp⟩:=List.any_eq_true.1 h
 obtain⟨j,hj,rfl⟩:=List.getElem_of_mem hx
 rw[hn j _ hj (by simp)] at hp;cases hp
theorem findI_ge {α:Type} {p:α→Bool} {l:List α}:0≤findI p l ↔ l.any p=true:=by
 rw[findI];split
 ·rename_i h;simp [h]
 ·rename_i h;simp [h]
theorem findI_lt {α:Type} {p:α→Bool} {l:List α} (h:0≤findI p l):∃ x,l[(findI p l).toNat]?=some x∧p x=true:=by
 have ha:=findI_ge.1 h
 rw[findI,if_pos ha,Int.toNat_natCast]
 have hl:l.findIdx p<l.length:=List.findIdx_lt_length_of_exists (by simpa using ha)
 exact⟨l[l.findIdx p],by simp [hl],List.findIdx_getElem⟩
theorem okAt_iff {d:Doc} {k:Nat} {x:Field} (h:d[k]?=some x):okAt d k ↔ isPath x.path=true∧x.val.Ok∧(0<k→∃ g,d[k-1]?=some g∧slt g.path x.path):=by
 simp only [okAt,h,Option.some.injEq]
 exact⟨fun⟨f,e,k⟩=>by subst e;exact k,fun k=>⟨x,rfl,k⟩⟩
theorem okAt_step {d:Doc} {k:Nat} (h:∀ j,j<k→okAt d j) (hk:okAt d k):∀ j,j<k+1→okAt d j:=fun j hj=>by
 by_cases e:j=k
 ·subst e;exact hk
 ·exact h j (by omega)
theorem may_false {d:Doc} {i:Nat} (hi:i<d.length) (h:¬ okAt d i):may d=false:=by
 simp only [may,decide_eq_false_iff_not];exact fun k=>h (k.2 i hi)
theorem may_true {d:Doc} (hl:d.length≤16) (h:∀ i,i<d.length→okAt d i):may d=true:=by
 simp only [may,decide_eq_true_eq];exact⟨hl,h⟩
theorem docErr_bad {d:Doc} {i:Nat} {x:Field} (hx:d[i]?=some x) (h:¬ (isPath x.path=true∧x.val.Ok∧(0<i→∃ g,d[i-1]?=some g∧slt g.path x.path))):docErr d=1:=by
 rw[docErr,may_false (List.getElem?_eq_some_iff.1 hx).1 (fun k=>h ((okAt_iff hx).1 k))];rfl
theorem docErr_ok {d:Doc} (hl:d.length≤16) (h:∀ i,i<d.length→okAt d i):docErr d=0:=by
 rw[docErr,may_true hl h];rfl
theorem docErr_zero {d:Doc}:docErr d=0 ↔ may d=true:=by
 rw[docErr];split<;>simp_all
theorem may_long {d:Doc} (hl:16<d.length):may d=false:=by
 simp only [may,decide_eq_false_iff_not];omega
theorem docErr_long {d:Doc} (hl:16<d.length):docErr d=1:=by rw[docErr,may_long hl];rfl
def Strs:List ByteArray→List (List PV):=List.map fun s=>[.str s]
theorem Strs_len (l:List ByteArray):(Strs l).length=l.length:=by simp [Strs]
def dot:ByteArray:=⟨#[46]⟩
def ofL (l:List UInt8):ByteArray:=⟨l.toArray⟩
theorem ofL_toL (s:ByteArray):ofL s.data.toList=s:=rfl
theorem toL_ofL (l:List UInt8):(ofL l).data.toList=l:=rfl
theorem toL_extract (s:ByteArray) (a b:Nat):(s.extract a b).data.toList=(s.data.toList.take b).drop a:=by
 rw[ByteArray.data_extract,Array.toList_extract,List.extract_eq_take_drop,List.drop_take]
theorem eq_of_toL {s t:ByteArray} (h:s.data.toList=t.data.toList):s=t:=by
 cases s;cases t;simp only [Array.toList_inj] at h;rw[h]
def splitL:List UInt8→List (List UInt8)
 | []=>[[]]
 | c::r=>if c=46 then[]::splitL r else match splitL r with
  | p::ps=>(c::p)::ps
  | []=>[[c]]
theorem splitL_ne (l:List UInt8):splitL l≠[]:=by
 induction l with
 | nil=>simp [splitL]
 | cons c r ih =>
  simp only [splitL]
  split
  ·simp
  ·split<;>simp
theorem splitL_none {l:List UInt8} (h:∀ c∈l,c≠46):splitL l=[l]:=by
 induction l with
 | nil=>rfl
 | cons c r ih=>simp only [splitL];rw[if_neg (h c (by simp)),ih fun c hc=>h c (by simp [hc])]
theorem splitL_at:∀ {l:List UInt8} {m:Nat},l[m]?=some 46→(∀ j,j<m→l[j]?≠some 46)→splitL l=l.take m::splitL (l.drop (m+1))
 | [],m,h,_=>by simp at h
 | c::r,0,h,_=>by
  simp at h;subst h;simp [splitL]
 | c::r,m+1,h,hn=>by
  have hc:c≠46:=by have:=hn 0 (by omega);simpa using this
  have:=splitL_at (l:=r) (m:=m) (by simpa using h) fun j hj=>by have:=hn (j+1) (by omega);simpa using this
  simp only [splitL,if_neg hc,this,List.take_succ_cons,List.drop_succ_cons]
def pieces (s:ByteArray):List ByteArray:=(splitL s.data.toList).map ofL
def cnt (s:ByteArray):Int:=(Lib.countByte s.data.toList 46:Nat)
def idx (s:ByteArray):Int:=Lib.indexByte s.data.toList 46
theorem count_at:∀ {l:List UInt8} {m:Nat},l[m]?=some 46→(∀ j,j<m→l[j]?≠some 46)→l.count 46=(l.drop (m+1)).count 46+1
 | [],m,h,_=>by simp at h
 | c::r,0,h,_=>by simp at h;subst h;simp
 | c::r,m+1,h,hn=>by
  have hc:c≠46:=by have:=hn 0 (by omega);simpa using this
  have:=count_at (l:=r) (m:=m) (by simpa using h) fun j hj=>by have:=hn (j+1) (by omega);simpa using this
  rw[List.count_cons_of_ne hc,this,List.drop_succ_cons]
theorem cnt_pos {s:ByteArray} (h:0<cnt s):0≤idx s∧idx s<s.size∧pieces s=s.extract 0 (idx s).toNat::pieces (s.extract ((idx s).toNat+1) s.size)∧cnt (s.extract ((idx s).toNat+1) s.size)=cnt s-1:=by
 have hge:=Lib.indexByte_ge s.data.toList 46
 by_cases hn:idx s=-1
 ·have:=Lib.indexByte_none hn
  have hc:s.data.toList.count 46=0:=List.count_eq_zero.2 fun hm=>by
   obtain⟨k,hk,e⟩:=List.getElem_of_mem hm
   exact this k (List.getElem?_eq_some_iff.2 ⟨hk,e⟩)
  simp [cnt,Lib.countByte,hc] at h
 ·have hpos:0≤idx s:=by unfold idx at *;omega
  obtain⟨o,ho⟩:=Int.eq_ofNat_of_zero_le hpos
  obtain⟨h1,h2⟩:=Lib.indexByte_some (show Lib.indexByte s.data.toList 46=o from ho)
  have hlt:o<s.size:=by rw[← size_list];exact(List.getElem?_eq_some_iff.1 h1).1
  have hd:(s.extract (o+1) s.size).data.toList=s.data.toList.drop (o+1):=by rw[toL_extract,← size_list,List.take_length]
  refine⟨hpos,by omega,?_,?_⟩
  ·rw[ho,Int.toNat_natCast,pieces,pieces,hd,splitL_at h1 h2,List.map_cons]
   refine congrArg (·::_) (eq_of_toL ?_)
   rw[toL_ofL,toL_extract,List.drop_zero]
  ·rw[ho,Int.toNat_natCast]
   simp only [cnt,Lib.countByte,hd,count_at h1 h2]
   omega
theorem cnt_zero {s:ByteArray} (h:cnt s≤0):pieces s=[s]:=by
 have hc:s.data.toList.count 46=0:=by simp only [cnt,Lib.countByte] at h;omega
 rw[pieces,splitL_none fun c hm e=>by subst e;exact List.count_eq_zero.1 hc hm]
 rfl
theorem cnt_le (s:ByteArray):0≤cnt s∧cnt s≤s.size:=by
 have:=List.count_le_length (a:=(46:UInt8)) (l:=s.data.toList)
 rw[size_list] at this
 simp only [cnt,Lib.countByte];omega
theorem splitL_len (l:List UInt8):(splitL l).length≤l.length+1∧∀ p∈splitL l,p.length≤l.length:=by
 induction l with
 | nil=>simp [splitL]
 | cons c r ih =>
  simp only [splitL]
  split
  ·refine⟨by simp;omega,fun p hp=>?_⟩
   rcases List.mem_cons.1 hp with rfl|hp
   ·simp
   ·have:=ih.2 p hp;simp;omega
  ·split
   ·rename_i q qs hq
    rw[hq] at ih
    refine⟨by have:=ih.1;simp at this ⊢;omega,fun p hp=>?_⟩
    rcases List.mem_cons.1 hp with rfl|hp
    ·have:=ih.2 q (by simp);simp;omega
    ·have:=ih.2 p (by simp [hp]);simp;omega
   ·simp
theorem pieces_len {s:ByteArray} (h:s.size≤1099511627776):(pieces s).length≤1099511627777:=by
 have:=(splitL_len s.data.toList).1
 rw[size_list] at this
 simp only [pieces,List.length_map];omega
theorem size_ofL (l:List UInt8):(ofL l).size=l.length:=by rw[← size_list];rfl
theorem pieces_size {s:ByteArray} (h:s.size≤1099511627776):∀ p∈pieces s,p.size≤1099511627776:=by
 intro p hp
 obtain⟨q,hq,rfl⟩:=List.mem_map.1 hp
 have:=(splitL_len s.data.toList).2 q hq
 rw[size_list] at this
 rw[size_ofL];omega
def trimW (s:ByteArray) (cs:List UInt8):ByteArray:=⟨(Lib.trimS s.data.toList cs).toArray⟩
def letters:ByteArray:=⟨#[97,98,99,100,101,102,103,104,105,106,107,108,109,110,111,112,113,114,115,116,117,118,119,120,121,122,48,49,50,51,52,53,54,55,56,57]⟩
def badW (s:ByteArray):Bool:=s.data.toList.isEmpty || s.data.toList.any fun c=>!isLet c.toNat
theorem scan_split:∀ (l:List UInt8) (w:Bool),scan l w=match splitL l with
  | p::ps=>(w || !p.isEmpty) && (p.all fun c=>isLet c.toNat) && ps.all fun p=>!p.isEmpty && p.all fun c=>isLet c.toNat
  | []=>false
 | [],w=>by simp [scan,splitL]
 | c::r,w=>by
  have ih1:=scan_split r true
  have ih2:=scan_split r false
  have hne:=splitL_ne r
  have hc:(c.toNat:Int)=46 ↔ c=46:=by
   constructor
   ·intro h;exact UInt8.toNat_inj.1 (by simpa using(by omega:c.toNat=46))
   ·rintro rfl;rfl
  simp only [scan,splitL,hc]
  cases hs:splitL r with
  | nil=>exact absurd hs hne
  | cons p ps =>
   rw[hs] at ih1 ih2
   by_cases h:c=46
   ·subst h
    cases w
    ·simp [isLet]
    ·simp [ih2]
   ·simp only [h,false_and,if_false,ih1]
    cases hl:isLet c.toNat<;>simp [hl]
theorem isPath_pieces (s:ByteArray):isPath s=(isKey s && !(pieces s).any badW):=by
 have h:=scan_split s.data.toList false
 have hne:=splitL_ne s.data.toList
 have hk:s.size=0→scan s.data.toList false=false:=by
  intro h0
  have:s.data.toList=[]:=List.eq_nil_of_length_eq_zero (by rw[size_list,h0])
  rw[this];rfl
 have hb:(!(pieces s).any badW)=scan s.data.toList false:=by
  rw[h]
  unfold pieces
  cases hs:splitL s.data.toList with
  | nil=>exact absurd hs hne
  | cons p ps =>
   rw[Bool.eq_iff_iff]
   simp [badW,toL_ofL]
 rw[hb]
 unfold isPath isKey
 by_cases h0:s.size=0
 ·simp [hk h0]
 ·have:1≤s.size:=by omega
  simp only [this,true_and]
  exact Bool.and_comm _ _
theorem letters_iff:∀ n:Fin 256,letters.data.toList.contains (UInt8.ofNat n.val)=isLet n.val:=by decide +kernel
theorem letters_c (c:UInt8):letters.data.toList.contains c=isLet c.toNat:=by
 have:=letters_iff ⟨c.toNat,c.toNat_lt⟩
 simpa using this
theorem dropWhile_nil {α:Type} (p:α→Bool) (l:List α):l.dropWhile p=[] ↔ ∀ x∈l,p x=true:=by
 induction l with
 | nil=>simp
 | cons x r ih =>
  rw[List.dropWhile_cons]
  split<;>simp_all
theorem dropWhile_mem {α:Type} {p:α→Bool} {l:List α} {x:α} (hx:x∈l) (hp:p x=false):x∈l.dropWhile p:=by
 induction l with
 | nil=>simp at hx
 | cons y r ih =>
  rw[List.dropWhile_cons]
  split
  ·rcases List.mem_cons.1 hx with rfl|hx
   ·simp_all
   ·exact ih hx
  ·exact hx
theorem trimW_empty (s:ByteArray):(trimW s letters.data.toList=ByteArray.empty) ↔ (s.data.toList.any fun c=>!isLet c.toNat)=false:=by
 have e:trimW s letters.data.toList=ByteArray.empty ↔ Lib.trimS s.data.toList letters.data.toList=[]:=by
  constructor
  ·intro h;exact congrArg (fun t:ByteArray=>t.data.toList) h
  ·intro h;exact eq_of_toL h
 rw[e,Lib.trimS,Lib.trimLeftS,dropWhile_nil,Lib.trimRightS]
 constructor
 ·intro h
  rw[List.any_eq_false]
  intro c hc
  cases hl:isLet c.toNat with
  | true=>simp
  | false =>
   have hp:letters.data.toList.contains c=false:=by rw[letters_c,hl]
   have:=h c (List.mem_reverse.2 (dropWhile_mem (List.mem_reverse.2 hc) hp))
   rw[hp] at this;cases this
 ·intro h c hc
  rw[List.any_eq_false] at h
  have hm:c∈s.data.toList:=List.mem_reverse.1 ((List.dropWhile_sublist _).mem (List.mem_reverse.1 hc))
  rw[letters_c]
  simpa using h c hm
end Go.Sym
