/- Texts, cut at dots. -/
import Derived.Test.YtbneclkckmdkgaaGreatDoorK1
import Derived.Lib.Bytealg
import Derived.Lib.SlTrimSet
import Derived.Lib.IndexLaws
set_option linter.all false
set_option linter.unusedVariables false
set_option linter.unusedSimpArgs false
namespace Go.Sym
open Go
def Strs:List ByteArray→List (List PV):=List.map fun s=>[.str s]
theorem Strs_len (l:List ByteArray):(Strs l).length=l.length:=by simp [Strs]
def dot:ByteArray:=⟨#[46]⟩
def ofL (l:List UInt8):ByteArray:=⟨l.toArray⟩
theorem toL_ofL (l:List UInt8):(ofL l).data.toList=l:=rfl
theorem toL_extract (s:ByteArray) (a b:Nat):(s.extract a b).data.toList=(s.data.toList.take b).drop a:=by
 rw[ByteArray.data_extract,Array.toList_extract,List.extract_eq_take_drop,List.drop_take]
theorem eq_of_toL {s t:ByteArray} (h:s.data.toList=t.data.toList):s=t:=by
 cases s;cases t;simp only [Array.toList_inj] at h;rw[h]
def splitL:List UInt8→List (List UInt8)
 | []=>[[]]
 | c::r=>if c=46 then[]::splitL r else match splitL r with
  | p::ps=>(c::p)::ps
  | []=>[[c]]
theorem splitL_ne (l:List UInt8):splitL l≠[]:=by
 induction l with
 | nil=>simp [splitL]
 | cons c r ih =>
  simp only [splitL]
  split
  ·simp
  ·split<;>simp
theorem splitL_none {l:List UInt8} (h:∀ c∈l,c≠46):splitL l=[l]:=by
 induction l with
 | nil=>rfl
 | cons c r ih=>simp only [splitL];rw[if_neg (h c (by simp)),ih fun c hc=>h c (by simp [hc])]
theorem splitL_at:∀ {l:List UInt8} {m:Nat},l[m]?=some 46→(∀ j,j<m→l[j]?≠some 46)→splitL l=l.take m::splitL (l.drop (m+1))
 | [],m,h,_=>by simp at h
 | c::r,0,h,_=>by
  simp at h;subst h;simp [splitL]
 | c::r,m+1,h,hn=>by
  have hc:c≠46:=by have:=hn 0 (by omega);simpa using this
  have:=splitL_at (l:=r) (m:=m) (by simpa using h) fun j hj=>by have:=hn (j+1) (by omega);simpa using this
  simp only [splitL,if_neg hc,this,List.take_succ_cons,List.drop_succ_cons]
def pieces (s:ByteArray):List ByteArray:=(splitL s.data.toList).map ofL
def cnt (s:ByteArray):Int:=(Lib.countByte s.data.toList 46:Nat)
def idx (s:ByteArray):Int:=Lib.indexByte s.data.toList 46
theorem count_at:∀ {l:List UInt8} {m:Nat},l[m]?=some 46→(∀ j,j<m→l[j]?≠some 46)→l.count 46=(l.drop (m+1)).count 46+1
 | [],m,h,_=>by simp at h
 | c::r,0,h,_=>by simp at h;subst h;simp
 | c::r,m+1,h,hn=>by
  have hc:c≠46:=by have:=hn 0 (by omega);simpa using this
  have:=count_at (l:=r) (m:=m) (by simpa using h) fun j hj=>by have:=hn (j+1) (by omega);simpa using this
  rw[List.count_cons_of_ne hc,this,List.drop_succ_cons]
theorem cnt_pos {s:ByteArray} (h:0<cnt s):0≤idx s∧idx s<s.size∧pieces s=s.extract 0 (idx s).toNat::pieces (s.extract ((idx s).toNat+1) s.size)∧cnt (s.extract ((idx s).toNat+1) s.size)=cnt s-1:=by
 have hge:=Lib.indexByte_ge s.data.toList 46
 by_cases hn:idx s=-1
 ·have:=Lib.indexByte_none hn
  have hc:s.data.toList.count 46=0:=List.count_eq_zero.2 fun hm=>by
   obtain⟨k,hk,e⟩:=List.getElem_of_mem hm
   exact this k (List.getElem?_eq_some_iff.2 ⟨hk,e⟩)
  simp [cnt,Lib.countByte,hc] at h
 ·have hpos:0≤idx s:=by unfold idx at *;omega
  obtain⟨o,ho⟩:=Int.eq_ofNat_of_zero_le hpos
  obtain⟨h1,h2⟩:=Lib.indexByte_some (show Lib.indexByte s.data.toList 46=o from ho)
  have hlt:o<s.size:=by rw[← size_list];exact(List.getElem?_eq_some_iff.1 h1).1
  have hd:(s.extract (o+1) s.size).data.toList=s.data.toList.drop (o+1):=by rw[toL_extract,← size_list,List.take_length]
  refine⟨hpos,by omega,?_,?_⟩
  ·rw[ho,Int.toNat_natCast,pieces,pieces,hd,splitL_at h1 h2,List.map_cons]
   refine congrArg (·::_) (eq_of_toL ?_)
   rw[toL_ofL,toL_extract,List.drop_zero]
  ·rw[ho,Int.toNat_natCast]
   simp only [cnt,Lib.countByte,hd,count_at h1 h2]
   omega
theorem cnt_zero {s:ByteArray} (h:cnt s≤0):pieces s=[s]:=by
 have hc:s.data.toList.count 46=0:=by simp only [cnt,Lib.countByte] at h;omega
 rw[pieces,splitL_none fun c hm e=>by subst e;exact List.count_eq_zero.1 hc hm]
 rfl
theorem cnt_le (s:ByteArray):0≤cnt s∧cnt s≤s.size:=by
 have:=List.count_le_length (a:=(46:UInt8)) (l:=s.data.toList)
 rw[size_list] at this
 simp only [cnt,Lib.countByte];omega
theorem splitL_len (l:List UInt8):(splitL l).length≤l.length+1∧∀ p∈splitL l,p.length≤l.length:=by
 induction l with
 | nil=>simp [splitL]
 | cons c r ih =>
  simp only [splitL]
  split
  ·refine⟨by simp;omega,fun p hp=>?_⟩
   rcases List.mem_cons.1 hp with rfl|hp
   ·simp
   ·have:=ih.2 p hp;simp;omega
  ·split
   ·rename_i q qs hq
    rw[hq] at ih
    refine⟨by have:=ih.1;simp at this ⊢;omega,fun p hp=>?_⟩
    rcases List.mem_cons.1 hp with rfl|hp
    ·have:=ih.2 q (by simp);simp;omega
    ·have:=ih.2 p (by simp [hp]);simp;omega
   ·simp
theorem pieces_len {s:ByteArray} (h:s.size≤1099511627776):(pieces s).length≤1099511627777:=by
 have:=(splitL_len s.data.toList).1
 rw[size_list] at this
 simp only [pieces,List.length_map];omega
theorem size_ofL (l:List UInt8):(ofL l).size=l.length:=by rw[← size_list];rfl
theorem pieces_size {s:ByteArray} (h:s.size≤1099511627776):∀ p∈pieces s,p.size≤1099511627776:=by
 intro p hp
 obtain⟨q,hq,rfl⟩:=List.mem_map.1 hp
 have:=(splitL_len s.data.toList).2 q hq
 rw[size_list] at this
 rw[size_ofL];omega
def trimW (s:ByteArray) (cs:List UInt8):ByteArray:=⟨(Lib.trimS s.data.toList cs).toArray⟩
def letters:ByteArray:=⟨#[97,98,99,100,101,102,103,104,105,106,107,108,109,110,111,112,113,114,115,116,117,118,119,120,121,122,48,49,50,51,52,53,54,55,56,57]⟩
def badW (s:ByteArray):Bool:=s.data.toList.isEmpty || s.data.toList.any fun c=>!isLet c.toNat
theorem scan_split:∀ (l:List UInt8) (w:Bool),scan l w=match splitL l with
  | p::ps=>(w || !p.isEmpty) && (p.all fun c=>isLet c.toNat) && ps.all fun p=>!p.isEmpty && p.all fun c=>isLet c.toNat
  | []=>false
 | [],w=>by simp [scan,splitL]
 | c::r,w=>by
  have ih1:=scan_split r true
  have ih2:=scan_split r false
  have hne:=splitL_ne r
  have hc:(c.toNat:Int)=46 ↔ c=46:=by
   constructor
   ·intro h;exact UInt8.toNat_inj.1 (by simpa using(by omega:c.toNat=46))
   ·rintro rfl;rfl
  simp only [scan,splitL,hc]
  cases hs:splitL r with
  | nil=>exact absurd hs hne
  | cons p ps =>
   rw[hs] at ih1 ih2
   by_cases h:c=46
   ·subst h
    cases w
    ·simp [isLet]
    ·simp [ih2]
   ·simp only [h,false_and,if_false,ih1]
    cases hl:isLet c.toNat<;>simp [hl]
theorem isPath_pieces (s:ByteArray):isPath s=(isKey s && !(pieces s).any badW):=by
 have h:=scan_split s.data.toList false
 have hne:=splitL_ne s.data.toList
 have hk:s.size=0→scan s.data.toList false=false:=by
  intro h0
  have:s.data.toList=[]:=List.eq_nil_of_length_eq_zero (by rw[size_list,h0])
  rw[this];rfl
 have hb:(!(pieces s).any badW)=scan s.data.toList false:=by
  rw[h]
  unfold pieces
  cases hs:splitL s.data.toList with
  | nil=>exact absurd hs hne
  | cons p ps =>
   rw[Bool.eq_iff_iff]
   simp [badW,toL_ofL]
 rw[hb]
 unfold isPath isKey
 by_cases h0:s.size=0
 ·simp [hk h0]
 ·have:1≤s.size:=by omega
  simp only [this,true_and]
  exact Bool.and_comm _ _
theorem letters_iff:∀ n:Fin 256,letters.data.toList.contains (UInt8.ofNat n.val)=isLet n.val:=by decide +kernel
theorem letters_c (c:UInt8):letters.data.toList.contains c=isLet c.toNat:=by
 have:=letters_iff ⟨c.toNat,c.toNat_lt⟩
 simpa using this
theorem dropWhile_nil {α:Type} (p:α→Bool) (l:List α):l.dropWhile p=[] ↔ ∀ x∈l,p x=true:=by
 induction l with
 | nil=>simp
 | cons x r ih =>
  rw[List.dropWhile_cons]
  split<;>simp_all
theorem dropWhile_mem {α:Type} {p:α→Bool} {l:List α} {x:α} (hx:x∈l) (hp:p x=false):x∈l.dropWhile p:=by
 induction l with
 | nil=>simp at hx
 | cons y r ih =>
  rw[List.dropWhile_cons]
  split
  ·rcases List.mem_cons.1 hx with rfl|hx
   ·simp_all
   ·exact ih hx
  ·exact hx
theorem trimW_empty (s:ByteArray):(trimW s letters.data.toList=ByteArray.empty) ↔ (s.data.toList.any fun c=>!isLet c.toNat)=false:=by
 have e:trimW s letters.data.toList=ByteArray.empty ↔ Lib.trimS s.data.toList letters.data.toList=[]:=by
  constructor
  ·intro h;exact congrArg (fun t:ByteArray=>t.data.toList) h
  ·intro h;exact eq_of_toL h
 rw[e,Lib.trimS,Lib.trimLeftS,dropWhile_nil,Lib.trimRightS]
 constructor
 ·intro h
  rw[List.any_eq_false]
  intro c hc
  cases hl:isLet c.toNat with
  | true=>simp
  | false =>
   have hp:letters.data.toList.contains c=false:=by rw[letters_c,hl]
   have:=h c (List.mem_reverse.2 (dropWhile_mem (List.mem_reverse.2 hc) hp))
   rw[hp] at this;cases this
 ·intro h c hc
  rw[List.any_eq_false] at h
  have hm:c∈s.data.toList:=List.mem_reverse.1 ((List.dropWhile_sublist _).mem (List.mem_reverse.1 hc))
  rw[letters_c]
  simpa using h c hm
end Go.Sym
