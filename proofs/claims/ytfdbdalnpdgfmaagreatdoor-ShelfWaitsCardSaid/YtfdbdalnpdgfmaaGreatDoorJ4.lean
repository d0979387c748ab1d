/- Values, fields, documents; which may be. -/
import Derived.Test.YtfdbdalnpdgfmaaGreatDoorJ3
import Derived.Lib.Bytealg
import Derived.Lib.SlTrimSet
import Derived.Lib.IndexLaws
import Derived.Lib.Strings
set_option linter.all false
set_option linter.unusedVariables false
set_option linter.unusedSimpArgs false
namespace Go.Sym
open Go
structure Val where
 kind:Int
 num:Int
 text:ByteArray
 re:Int
 im:Int
structure Field where
 path:ByteArray
 val:Val
def Val.enc (v:Val):List PV:=[.int .i64 v.kind,.int .i64 v.num,.str v.text,.int .i64 v.re,.int .i64 v.im]
def Field.enc (f:Field):List PV:=.str f.path::f.val.enc
abbrev Doc:=List Field
def Doc.enc:Doc→List (List PV):=List.map Field.enc
theorem Doc.enc_len (d:Doc):(Doc.enc d).length=d.length:=by simp [Doc.enc]
theorem Val.enc_inj {v w:Val}:v.enc=w.enc ↔ v=w:=by
 cases v;cases w;simp [Val.enc]
theorem Field.enc_inj {v w:Field}:v.enc=w.enc ↔ v=w:=by
 cases v;cases w;simp [Field.enc,Val.enc_inj]
theorem emp:({ data:={ toList:=[] } }:ByteArray)=ByteArray.empty:=rfl
def Val.Ok (v:Val):Prop :=
 (v.kind=1∧v.text=ByteArray.empty∧v.re=0∧v.im=0∧-9007199254740992≤v.num∧v.num≤9007199254740992) ∨
 (v.kind=3∧v.num=0∧v.text=ByteArray.empty∧-1048576≤v.re∧v.re≤1048576∧-1048576≤v.im∧v.im≤1048576) ∨
 (v.kind=2∧v.num=0∧v.re=0∧v.im=0∧v.text.size≤256)
def isKey (s:ByteArray):Bool:=decide (1≤s.size∧s.size≤64)
def isLet (c:Int):Bool:=(decide (97≤c) && decide (c≤122)) || (decide (48≤c) && decide (c≤57))
def scan:List UInt8→Bool→Bool
 | [],w=>w
 | c::r,w=>if (c.toNat:Int)=46∧w=true then scan r false else if isLet c.toNat=true then scan r true else false
def isPath (s:ByteArray):Bool:=scan s.data.toList false && decide (s.size≤64)
theorem size_list (s:ByteArray):s.data.toList.length=s.size:=by simp [← ByteArray.size_data]
theorem scan_step {s:ByteArray} {i:Int} (h:0≤i) (h2:i<s.size) (w:Bool):scan (s.data.toList.drop i.toNat) w =
  if byteAt s i=46∧w=true then scan (s.data.toList.drop (i+1).toNat) false else if isLet (byteAt s i)=true then scan (s.data.toList.drop (i+1).toNat) true else false:=by
 have hl:i.toNat<s.data.toList.length:=by rw[size_list];omega
 rw[List.drop_eq_getElem_cons hl,show(i+1).toNat=i.toNat+1 by omega]
 simp only [scan,byteAt,List.getD_eq_getElem?_getD,List.getElem?_eq_getElem hl,Option.getD_some]
theorem scan_end {s:ByteArray} {i:Int} (h2:s.size≤i) (w:Bool):scan (s.data.toList.drop i.toNat) w=w:=by
 rw[List.drop_of_length_le]
 ·rfl
 ·rw[size_list];omega
def findI {α:Type} (p:α→Bool) (l:List α):Int:=if l.any p=true then(l.findIdx p:Int) else -1
theorem findI_at {α:Type} {p:α→Bool} {l:List α} {k:Nat} {x:α} (h:l[k]?=some x) (hp:p x=true) (hn:∀ (j:Nat) y,j<k→l[j]?=some y→p y=false):findI p l=k:=by
 obtain⟨hk,e⟩:=List.getElem?_eq_some_iff.1 h
 have ha:l.any p=true:=List.any_eq_true.2 ⟨x,List.mem_of_getElem? h,hp⟩
 rw[findI,if_pos ha,(List.findIdx_eq hk).2 ⟨by rw[e];exact hp,fun j hj=>hn j _ hj (by simp)⟩]
theorem findI_none {α:Type} {p:α→Bool} {l:List α} (hn:∀ (j:Nat) y,j<l.length→l[j]?=some y→p y=false):findI p l=-1:=by
 rw[findI,if_neg]
 intro h
 obtain⟨x,hx,hp⟩:=List.any_eq_true.1 h
 obtain⟨j,hj,rfl⟩:=List.getElem_of_mem hx
 rw[hn j _ hj (by simp)] at hp;cases hp
theorem findI_ge {α:Type} {p:α→Bool} {l:List α}:0≤findI p l ↔ l.any p=true:=by
 rw[findI];split
 ·rename_i h;simp [h]
 ·rename_i h;simp [h]
open Classical in
noncomputable def sameDoc (d e : Doc) : Bool := decide (d = e)
theorem sameDoc_len {d e:Doc} (h:d.length≠e.length):sameDoc d e=false:=by
 simp only [sameDoc,decide_eq_false_iff_not];rintro rfl;exact h rfl
theorem sameDoc_at {d e:Doc} {k:Nat} (h:d[k]?≠e[k]?):sameDoc d e=false:=by
 simp only [sameDoc,decide_eq_false_iff_not];rintro rfl;exact h rfl
theorem sameDoc_all {d e:Doc} (hl:d.length=e.length) (h:∀ j,j<d.length→d[j]?=e[j]?):sameDoc d e=true:=by
 simp only [sameDoc,decide_eq_true_eq]
 apply List.ext_getElem? 
 intro j
 by_cases hj:j<d.length
 ·exact h j hj
 ·rw[List.getElem?_eq_none (by omega),List.getElem?_eq_none (by omega)]
theorem sameDoc_iff {d e:Doc}:sameDoc d e=true ↔ d=e:=by simp [sameDoc]
theorem fieldCells {x y:Field}:([PV.str x.path,PV.int IntKind.i64 x.val.kind,PV.int IntKind.i64 x.val.num,PV.str x.val.text,PV.int IntKind.i64 x.val.re,PV.int IntKind.i64 x.val.im]=[PV.str y.path,PV.int IntKind.i64 y.val.kind,PV.int IntKind.i64 y.val.num,PV.str y.val.text,PV.int IntKind.i64 y.val.re,PV.int IntKind.i64 y.val.im]) ↔ x=y:=Field.enc_inj
theorem below_step {P:Nat→Prop} {k:Nat} (h:∀ j,j<k→P j) (hk:P k):∀ j,j<k+1→P j:=fun j hj=>by
 by_cases e:j=k
 ·subst e;exact hk
 ·exact h j (by omega)
def cmpS (a b:ByteArray):Int:=Lib.compareBytes a.data.toList b.data.toList
theorem compareBytes_lt:∀ (x y:List UInt8),(Lib.compareBytes x y<0 ↔ x<y)∧(Lib.compareBytes x y=0 ↔ x=y)
 | [],[]=>by simp [Lib.compareBytes]
 | [],_::_=>by simp [Lib.compareBytes]
 | _::_,[]=>by simp [Lib.compareBytes]
 | a::x,b::y=>by
  have ih:=compareBytes_lt x y
  simp only [Lib.compareBytes,List.cons_lt_cons_iff,List.cons.injEq]
  split
  ·rename_i h;simp [h];intro e;subst e;exact absurd h (UInt8.lt_irrefl _)
  ·rename_i h
   split
   ·rename_i h';have hne:a≠b:=fun e=>by subst e;exact h h'
    simp [h,hne]
   ·rename_i h'
    have e:a=b:=UInt8.le_antisymm (UInt8.not_lt.1 h') (UInt8.not_lt.1 h)
    subst e
    simp [h,ih.1,ih.2]
theorem cmpS_lt {a b:ByteArray}:cmpS a b<0 ↔ slt a b:=by rw[cmpS,(compareBytes_lt _ _).1,slt_iff,Lib.toList_data,Lib.toList_data]
theorem cmpS_eq {a b:ByteArray}:cmpS a b=0 ↔ a=b:=by
 rw[cmpS,(compareBytes_lt _ _).2]
 constructor
 ·intro h;cases a;cases b;simp only [Array.toList_inj] at h;rw[h]
 ·rintro rfl;rfl
def Strs:List ByteArray→List (List PV):=List.map fun s=>[.str s]
theorem Strs_len (l:List ByteArray):(Strs l).length=l.length:=by simp [Strs]
def dot:ByteArray:=⟨#[46]⟩
def ofL (l:List UInt8):ByteArray:=⟨l.toArray⟩
theorem toL_ofL (l:List UInt8):(ofL l).data.toList=l:=rfl
theorem toL_extract (s:ByteArray) (a b:Nat):(s.extract a b).data.toList=(s.data.toList.take b).drop a:=by
 rw[ByteArray.data_extract,Array.toList_extract,List.extract_eq_take_drop,List.drop_take]
theorem eq_of_toL {s t:ByteArray} (h:s.data.toList=t.data.toList):s=t:=by
 cases s;cases t;simp only [Array.toList_inj] at h;rw[h]
def splitL:List UInt8→List (List UInt8)
 | []=>[[]]
 | c::r=>if c=46 then[]::splitL r else match splitL r with
  | p::ps=>(c::p)::ps
  | []=>[[c]]
theorem splitL_ne (l:List UInt8):splitL l≠[]:=by
 induction l with
 | nil=>simp [splitL]
 | cons c r ih =>
  simp only [splitL]
  split
  ·simp
  ·split<;>simp
theorem splitL_none {l:List UInt8} (h:∀ c∈l,c≠46):splitL l=[l]:=by
 induction l with
 | nil=>rfl
 | cons c r ih=>simp only [splitL];rw[if_neg (h c (by simp)),ih fun c hc=>h c (by simp [hc])]
theorem splitL_at:∀ {l:List UInt8} {m:Nat},l[m]?=some 46→(∀ j,j<m→l[j]?≠some 46)→splitL l=l.take m::splitL (l.drop (m+1))
 | [],m,h,_=>by simp at h
 | c::r,0,h,_=>by
  simp at h;subst h;simp [splitL]
 | c::r,m+1,h,hn=>by
  have hc:c≠46:=by have:=hn 0 (by omega);simpa using this
  have:=splitL_at (l:=r) (m:=m) (by simpa using h) fun j hj=>by have:=hn (j+1) (by omega);simpa using this
  simp only [splitL,if_neg hc,this,List.take_succ_cons,List.drop_succ_cons]
def pieces (s:ByteArray):List ByteArray:=(splitL s.data.toList).map ofL
def cnt (s:ByteArray):Int:=(Lib.countByte s.data.toList 46:Nat)
def idx (s:ByteArray):Int:=Lib.indexByte s.data.toList 46
theorem count_at:∀ {l:List UInt8} {m:Nat},l[m]?=some 46→(∀ j,j<m→l[j]?≠some 46)→l.count 46=(l.drop (m+1)).count 46+1
 | [],m,h,_=>by simp at h
 | c::r,0,h,_=>by simp at h;subst h;simp
 | c::r,m+1,h,hn=>by
  have hc:c≠46:=by have:=hn 0 (by omega);simpa using this
  have:=count_at (l:=r) (m:=m) (by simpa using h) fun j hj=>by have:=hn (j+1) (by omega);simpa using this
  rw[List.count_cons_of_ne hc,this,List.drop_succ_cons]
theorem cnt_pos {s:ByteArray} (h:0<cnt s):0≤idx s∧idx s<s.size∧pieces s=s.extract 0 (idx s).toNat::pieces (s.extract ((idx s).toNat+1) s.size)∧cnt (s.extract ((idx s).toNat+1) s.size)=cnt s-1:=by
 have hge:=Lib.indexByte_ge s.data.toList 46
 by_cases hn:idx s=-1
 ·have:=Lib.indexByte_none hn
  have hc:s.data.toList.count 46=0:=List.count_eq_zero.2 fun hm=>by
   obtain⟨k,hk,e⟩:=List.getElem_of_mem hm
   exact this k (List.getElem?_eq_some_iff.2 ⟨hk,e⟩)
  simp [cnt,Lib.countByte,hc] at h
 ·have hpos:0≤idx s:=by unfold idx at *;omega
  obtain⟨o,ho⟩:=Int.eq_ofNat_of_zero_le hpos
  obtain⟨h1,h2⟩:=Lib.indexByte_some (show Lib.indexByte s.data.toList 46=o from ho)
  have hlt:o<s.size:=by rw[← size_list];exact(List.getElem?_eq_some_iff.1 h1).1
  have hd:(s.extract (o+1) s.size).data.toList=s.data.toList.drop (o+1):=by rw[toL_extract,← size_list,List.take_length]
  refine⟨hpos,by omega,?_,?_⟩
  ·rw[ho,Int.toNat_natCast,pieces,pieces,hd,splitL_at h1 h2,List.map_cons]
   refine congrArg (·::_) (eq_of_toL ?_)
   rw[toL_ofL,toL_extract,List.drop_zero]
  ·rw[ho,Int.toNat_natCast]
   simp only [cnt,Lib.countByte,hd,count_at h1 h2]
   omega
theorem cnt_zero {s:ByteArray} (h:cnt s≤0):pieces s=[s]:=by
 have hc:s.data.toList.count 46=0:=by simp only [cnt,Lib.countByte] at h;omega
 rw[pieces,splitL_none fun c hm e=>by subst e;exact List.count_eq_zero.1 hc hm]
 rfl
theorem cnt_le (s:ByteArray):0≤cnt s∧cnt s≤s.size:=by
 have:=List.count_le_length (a:=(46:UInt8)) (l:=s.data.toList)
 rw[size_list] at this
 simp only [cnt,Lib.countByte];omega
theorem splitL_len (l:List UInt8):(splitL l).length≤l.length+1∧∀ p∈splitL l,p.length≤l.length:=by
 induction l with
 | nil=>simp [splitL]
 | cons c r ih =>
  simp only [splitL]
  split
  ·refine⟨by simp;omega,fun p hp=>?_⟩
   rcases List.mem_cons.1 hp with rfl|hp
   ·simp
   ·have:=ih.2 p hp;simp;omega
  ·split
   ·rename_i q qs hq
    rw[hq] at ih
    refine⟨by have:=ih.1;simp at this ⊢;omega,fun p hp=>?_⟩
    rcases List.mem_cons.1 hp with rfl|hp
    ·have:=ih.2 q (by simp);simp;omega
    ·have:=ih.2 p (by simp [hp]);simp;omega
   ·simp
theorem pieces_len {s:ByteArray} (h:s.size≤1099511627776):(pieces s).length≤1099511627777:=by
 have:=(splitL_len s.data.toList).1
 rw[size_list] at this
 simp only [pieces,List.length_map];omega
theorem size_ofL (l:List UInt8):(ofL l).size=l.length:=by rw[← size_list];rfl
theorem pieces_size {s:ByteArray} (h:s.size≤1099511627776):∀ p∈pieces s,p.size≤1099511627776:=by
 intro p hp
 obtain⟨q,hq,rfl⟩:=List.mem_map.1 hp
 have:=(splitL_len s.data.toList).2 q hq
 rw[size_list] at this
 rw[size_ofL];omega
def trimW (s:ByteArray) (cs:List UInt8):ByteArray:=⟨(Lib.trimS s.data.toList cs).toArray⟩
def letters:ByteArray:=⟨#[97,98,99,100,101,102,103,104,105,106,107,108,109,110,111,112,113,114,115,116,117,118,119,120,121,122,48,49,50,51,52,53,54,55,56,57]⟩
def badW (s:ByteArray):Bool:=s.data.toList.isEmpty || s.data.toList.any fun c=>!isLet c.toNat
theorem scan_split:∀ (l:List UInt8) (w:Bool),scan l w=match splitL l with
  | p::ps=>(w || !p.isEmpty) && (p.all fun c=>isLet c.toNat) && ps.all fun p=>!p.isEmpty && p.all fun c=>isLet c.toNat
  | []=>false
 | [],w=>by simp [scan,splitL]
 | c::r,w=>by
  have ih1:=scan_split r true
  have ih2:=scan_split r false
  have hne:=splitL_ne r
  have hc:(c.toNat:Int)=46 ↔ c=46:=by
   constructor
   ·intro h;exact UInt8.toNat_inj.1 (by simpa using(by omega:c.toNat=46))
   ·rintro rfl;rfl
  simp only [scan,splitL,hc]
  cases hs:splitL r with
  | nil=>exact absurd hs hne
  | cons p ps =>
   rw[hs] at ih1 ih2
   by_cases h:c=46
   ·subst h
    cases w
    ·simp [isLet]
    ·simp [ih2]
   ·simp only [h,false_and,if_false,ih1]
    cases hl:isLet c.toNat<;>simp [hl]
theorem isPath_pieces (s:ByteArray):isPath s=(isKey s && !(pieces s).any badW):=by
 have h:=scan_split s.data.toList false
 have hne:=splitL_ne s.data.toList
 have hk:s.size=0→scan s.data.toList false=false:=by
  intro h0
  have:s.data.toList=[]:=List.eq_nil_of_length_eq_zero (by rw[size_list,h0])
  rw[this];rfl
 have hb:(!(pieces s).any badW)=scan s.data.toList false:=by
  rw[h]
  unfold pieces
  cases hs:splitL s.data.toList with
  | nil=>exact absurd hs hne
  | cons p ps =>
   rw[Bool.eq_iff_iff]
   simp [badW,toL_ofL]
 rw[hb]
 unfold isPath isKey
 by_cases h0:s.size=0
 ·simp [hk h0]
 ·have:1≤s.size:=by omega
  simp only [this,true_and]
  exact Bool.and_comm _ _
theorem letters_iff:∀ n:Fin 256,letters.data.toList.contains (UInt8.ofNat n.val)=isLet n.val:=by decide +kernel
theorem letters_c (c:UInt8):letters.data.toList.contains c=isLet c.toNat:=by
 have:=letters_iff ⟨c.toNat,c.toNat_lt⟩
 simpa using this
theorem dropWhile_nil {α:Type} (p:α→Bool) (l:List α):l.dropWhile p=[] ↔ ∀ x∈l,p x=true:=by
 induction l with
 | nil=>simp
 | cons x r ih =>
  rw[List.dropWhile_cons]
  split<;>simp_all
theorem dropWhile_mem {α:Type} {p:α→Bool} {l:List α} {x:α} (hx:x∈l) (hp:p x=false):x∈l.dropWhile p:=by
 induction l with
 | nil=>simp at hx
 | cons y r ih =>
  rw[List.dropWhile_cons]
  split
  ·rcases List.mem_cons.1 hx with rfl|hx
   ·simp_all
   ·exact ih hx
  ·exact hx
theorem trimW_empty (s:ByteArray):(trimW s letters.data.toList=ByteArray.empty) ↔ (s.data.toList.any fun c=>!isLet c.toNat)=false:=by
 have e:trimW s letters.data.toList=ByteArray.empty ↔ Lib.trimS s.data.toList letters.data.toList=[]:=by
  constructor
  ·intro h;exact congrArg (fun t:ByteArray=>t.data.toList) h
  ·intro h;exact eq_of_toL h
 rw[e,Lib.trimS,Lib.trimLeftS,dropWhile_nil,Lib.trimRightS]
 constructor
 ·intro h
  rw[List.any_eq_false]
  intro c hc
  cases hl:isLet c.toNat with
  | true=>simp
  | false =>
   have hp:letters.data.toList.contains c=false:=by rw[letters_c,hl]
   have:=h c (List.mem_reverse.2 (dropWhile_mem (List.mem_reverse.2 hc) hp))
   rw[hp] at this;cases this
 ·intro h c hc
  rw[List.any_eq_false] at h
  have hm:c∈s.data.toList:=List.mem_reverse.1 ((List.dropWhile_sublist _).mem (List.mem_reverse.1 hc))
  rw[letters_c]
  simpa using h c hm
structure Change where
 pos:Int
 key:ByteArray
 has:Bool
 doc:Doc
structure Sub where
 name:ByteArray
 pos:Int
structure Feed where
 base:Int
 total:Int
 changes:List Change
 subs:List Sub
def Change.enc (O:Opq) (c:Change):List PV:=[.int .i64 c.pos,.str c.key,.bool c.has,.sl false 0 false 6 (O.o Doc.enc c.doc)]
def Chs.enc (O:Opq) (l:List Change):List (List PV):=l.map (Change.enc O)
def Sub.enc (s:Sub):List PV:=[.str s.name,.int .i64 s.pos]
def Subs.enc:List Sub→List (List PV):=List.map Sub.enc
def Feed.enc (O:Opq) (f:Feed):List PV:=[.int .i64 f.base,.int .i64 f.total,.sl false 0 false 4 (O.o (Chs.enc O) f.changes),.sl false 0 false 2 (O.o Subs.enc f.subs)]
theorem Chs.enc_len (O:Opq) (l:List Change):(Chs.enc O l).length=l.length:=by simp [Chs.enc]
theorem Subs.enc_len (l:List Sub):(Subs.enc l).length=l.length:=by simp [Subs.enc]
theorem Chs.len (O:Opq) (l:List Change):(O.o (Chs.enc O) l).length=l.length:=by rw[O.h,Chs.enc_len]
theorem Subs.len (O:Opq) (l:List Sub):(O.o Subs.enc l).length=l.length:=by rw[O.h,Subs.enc_len]
open Classical in
noncomputable def sameC (l m:List Change):Bool:=decide (l=m)
inductive Cel where
 | mk (kind num:Int) (text:ByteArray) (list:List Cel)
def Cel.kind:Cel→Int | .mk k _ _ _=>k
def Cel.num:Cel→Int | .mk _ n _ _=>n
def Cel.text:Cel→ByteArray | .mk _ _ t _=>t
def Cel.list:Cel→List Cel | .mk _ _ _ l=>l
mutual
def Cel.enc:Cel→List PV
 | .mk k n t l=>[.int .i64 k,.int .i64 n,.str t,.sl false 0 false 4 (Cels.enc l)]
def Cels.enc:List Cel→List (List PV)
 | []=>[]
 | c::l=>c.enc::Cels.enc l
end
theorem Cels.enc_map:∀ l:List Cel,Cels.enc l=l.map Cel.enc
 | []=>by simp [Cels.enc]
 | c::l=>by rw[Cels.enc,Cels.enc_map l];rfl
theorem Cels.enc_len (l:List Cel):(Cels.enc l).length=l.length:=by rw[Cels.enc_map];simp
mutual
def Cel.size : Cel → Nat
  | .mk _ _ _ l => 1 + Cels.size l
def Cels.size : List Cel → Nat
  | [] => 0
  | c :: l => c.size + Cels.size l
end
def Cel.en (O:Opq) (c:Cel):List PV:=[.int .i64 c.kind,.int .i64 c.num,.str c.text,.sl false 0 false 4 (O.o Cels.enc c.list)]
theorem Cel.en_eq (O:Opq) (c:Cel):c.enc=c.en O:=by
 obtain⟨k,n,t,l⟩:=c
 simp only [Cel.enc,Cel.en,O.h]
 rfl
theorem Cels.en_eq (O:Opq) (l:List Cel):Cels.enc l=l.map (Cel.en O):=by
 rw[Cels.enc_map];exact List.map_congr_left fun c _=>Cel.en_eq O c
theorem Cels.en_len (O:Opq) (l:List Cel):(O.o Cels.enc l).length=l.length:=by rw[O.h,Cels.enc_len]
theorem Cels.enc_append (l m:List Cel):Cels.enc (l++m)=Cels.enc l++Cels.enc m:=by simp [Cels.enc_map]
def two (c:Cel):Bool:=decide (c.list.length=2)
theorem Cel.size_list (c:Cel):c.size=1+Cels.size c.list:=by obtain⟨k,n,t,l⟩:=c;rfl
end Go.Sym
