/- Expressions: their texts, read back. -/
import Derived.Test.YtfdbdalnpdgfmaaGreatDoorK8
import Derived.Test.YtfdbdalnpdgfmaaGreatDoorJ4
set_option linter.all false
set_option linter.unusedVariables false
set_option linter.unusedSimpArgs false
namespace Go.Sym
structure LexP extends Lex where
 dig:Nat→List UInt8
 leafX:∀ w x,leaf w=some x→x=.path w∨∃ n,x=.num n∧dig n=w
inductive Xp.Ok (L:LexP):Xp→Prop
 | path {w} (h:L.leaf w=some (.path w)):Xp.Ok L (.path w)
 | num {n} (h:L.leaf (L.dig n)=some (.num n)):Xp.Ok L (.num n)
 | sum {a b} (h:Xp.Ok L a) (k:Xp.Ok L b):Xp.Ok L (.sum a b)
 | mul {a b} (h:Xp.Ok L a) (k:Xp.Ok L b):Xp.Ok L (.mul a b)
 | call {w a} (h:L.name w=true) (k:Xp.Ok L a):Xp.Ok L (.call w a)
def Xp.lvl:Xp→Nat
 | .sum _ _=>2
 | .mul _ _=>1
 | _=>0
def inPar (b:Prop) [Decidable b] (s:List UInt8):List UInt8:=if b then 40::(s++[41]) else s
def Xp.txt (dig:Nat→List UInt8):Xp→List UInt8
 | .path w=>w
 | .num n=>dig n
 | .sum a b=>a.txt dig++43::inPar (b.lvl=2) (b.txt dig)
 | .mul a b=>inPar (a.lvl=2) (a.txt dig)++42::inPar (1≤b.lvl) (b.txt dig)
 | .call w a=>w++40::(a.txt dig++[41])
theorem Der.up {L:Lex} {k:Nat} {s:List UInt8} {e:Xp} (h:Der L k s e) (hk:k≤2):Der L 2 s e:=by
 match k,hk with
 | 0,_=>exact .up1 (.up0 h)
 | 1,_=>exact .up1 h
 | 2,_=>exact h
theorem Xp.lvl_le (e:Xp):e.lvl≤2:=by cases e<;>simp [Xp.lvl]
theorem der_par {L:Lex} {s:List UInt8} {e:Xp} (h:Der L e.lvl s e) (k:Nat) (hk:k≤1) {b:Prop} [Decidable b] (hb:b ↔ k<e.lvl):Der L k (inPar b s) e:=by
 have hl:=e.lvl_le
 unfold inPar
 split
 ·have d:Der L 0 (40::(s++[41])) e:=.paren (h.up hl)
  match k,hk with
  | 0,_=>exact d
  | 1,_=>exact .up0 d
 ·rename_i hn
  have:e.lvl≤k:=by have:=_root_.mt hb.2 hn;omega
  clear hb hn
  generalize e.lvl=l at h this
  have c:l=0∧k=0∨l=0∧k=1∨l=1∧k=1:=by omega
  rcases c with ⟨rfl,rfl⟩ | ⟨rfl,rfl⟩ | ⟨rfl,rfl⟩
  ·exact h
  ·exact .up0 h
  ·exact h
theorem txt_der {L:LexP} {e:Xp} (h:e.Ok L):Der L.toLex e.lvl (e.txt L.dig) e:=by
 induction h with
 | path h=>exact .leaf h
 | num h=>exact .leaf h
 | @sum a b h k ih jh=>exact .sum (ih.up a.lvl_le) (der_par jh 1 (by omega) (by have:=b.lvl_le;omega))
 | @mul a b h k ih jh=>exact .mul (der_par ih 1 (by omega) (by have:=a.lvl_le;omega)) (der_par jh 0 (by omega) (by omega))
 | @call w a h k ih=>exact .call h (ih.up a.lvl_le)
open Go
def comma:ByteArray:=⟨#[44]⟩
def splitLC:List UInt8→List (List UInt8)
 | []=>[[]]
 | c::r=>if c=44 then[]::splitLC r else match splitLC r with
  | p::ps=>(c::p)::ps
  | []=>[[c]]
theorem splitL_neC (l:List UInt8):splitLC l≠[]:=by
 induction l with
 | nil=>simp [splitLC]
 | cons c r ih =>
  simp only [splitLC]
  split
  ·simp
  ·split<;>simp
theorem splitL_noneC {l:List UInt8} (h:∀ c∈l,c≠44):splitLC l=[l]:=by
 induction l with
 | nil=>rfl
 | cons c r ih=>simp only [splitLC];rw[if_neg (h c (by simp)),ih fun c hc=>h c (by simp [hc])]
theorem splitL_atC:∀ {l:List UInt8} {m:Nat},l[m]?=some 44→(∀ j,j<m→l[j]?≠some 44)→splitLC l=l.take m::splitLC (l.drop (m+1))
 | [],m,h,_=>by simp at h
 | c::r,0,h,_=>by
  simp at h;subst h;simp [splitLC]
 | c::r,m+1,h,hn=>by
  have hc:c≠44:=by have:=hn 0 (by omega);simpa using this
  have:=splitL_atC (l:=r) (m:=m) (by simpa using h) fun j hj=>by have:=hn (j+1) (by omega);simpa using this
  simp only [splitLC,if_neg hc,this,List.take_succ_cons,List.drop_succ_cons]
def piecesC (s:ByteArray):List ByteArray:=(splitLC s.data.toList).map ofL
def cntC (s:ByteArray):Int:=(Lib.countByte s.data.toList 44:Nat)
def idxC (s:ByteArray):Int:=Lib.indexByte s.data.toList 44
theorem count_atC:∀ {l:List UInt8} {m:Nat},l[m]?=some 44→(∀ j,j<m→l[j]?≠some 44)→l.count 44=(l.drop (m+1)).count 44+1
 | [],m,h,_=>by simp at h
 | c::r,0,h,_=>by simp at h;subst h;simp
 | c::r,m+1,h,hn=>by
  have hc:c≠44:=by have:=hn 0 (by omega);simpa using this
  have:=count_atC (l:=r) (m:=m) (by simpa using h) fun j hj=>by have:=hn (j+1) (by omega);simpa using this
  rw[List.count_cons_of_ne hc,this,List.drop_succ_cons]
theorem cnt_posC {s:ByteArray} (h:0<cntC s):0≤idxC s∧idxC s<s.size∧piecesC s=s.extract 0 (idxC s).toNat::piecesC (s.extract ((idxC s).toNat+1) s.size)∧cntC (s.extract ((idxC s).toNat+1) s.size)=cntC s-1:=by
 have hge:=Lib.indexByte_ge s.data.toList 44
 by_cases hn:idxC s=-1
 ·have:=Lib.indexByte_none hn
  have hc:s.data.toList.count 44=0:=List.count_eq_zero.2 fun hm=>by
   obtain⟨k,hk,e⟩:=List.getElem_of_mem hm
   exact this k (List.getElem?_eq_some_iff.2 ⟨hk,e⟩)
  simp [cntC,Lib.countByte,hc] at h
 ·have hpos:0≤idxC s:=by unfold idxC at *;omega
  obtain⟨o,ho⟩:=Int.eq_ofNat_of_zero_le hpos
  obtain⟨h1,h2⟩:=Lib.indexByte_some (show Lib.indexByte s.data.toList 44=o from ho)
  have hlt:o<s.size:=by rw[← size_list];exact(List.getElem?_eq_some_iff.1 h1).1
  have hd:(s.extract (o+1) s.size).data.toList=s.data.toList.drop (o+1):=by rw[toL_extract,← size_list,List.take_length]
  refine⟨hpos,by omega,?_,?_⟩
  ·rw[ho,Int.toNat_natCast,piecesC,piecesC,hd,splitL_atC h1 h2,List.map_cons]
   refine congrArg (·::_) (eq_of_toL ?_)
   rw[toL_ofL,toL_extract,List.drop_zero]
  ·rw[ho,Int.toNat_natCast]
   simp only [cntC,Lib.countByte,hd,count_atC h1 h2]
   omega
theorem cnt_zeroC {s:ByteArray} (h:cntC s≤0):piecesC s=[s]:=by
 have hc:s.data.toList.count 44=0:=by simp only [cntC,Lib.countByte] at h;omega
 rw[piecesC,splitL_noneC fun c hm e=>by subst e;exact List.count_eq_zero.1 hc hm]
 rfl
theorem cnt_leC (s:ByteArray):0≤cntC s∧cntC s≤s.size:=by
 have:=List.count_le_length (a:=(44:UInt8)) (l:=s.data.toList)
 rw[size_list] at this
 simp only [cntC,Lib.countByte];omega
theorem splitL_lenC (l:List UInt8):(splitLC l).length≤l.length+1∧∀ p∈splitLC l,p.length≤l.length:=by
 induction l with
 | nil=>simp [splitLC]
 | cons c r ih =>
  simp only [splitLC]
  split
  ·refine⟨by simp;omega,fun p hp=>?_⟩
   rcases List.mem_cons.1 hp with rfl|hp
   ·simp
   ·have:=ih.2 p hp;simp;omega
  ·split
   ·rename_i q qs hq
    rw[hq] at ih
    refine⟨by have:=ih.1;simp at this ⊢;omega,fun p hp=>?_⟩
    rcases List.mem_cons.1 hp with rfl|hp
    ·have:=ih.2 q (by simp);simp;omega
    ·have:=ih.2 p (by simp [hp]);simp;omega
   ·simp
end Go.Sym
