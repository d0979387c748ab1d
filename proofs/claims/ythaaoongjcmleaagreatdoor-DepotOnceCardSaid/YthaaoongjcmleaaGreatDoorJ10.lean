/- Feeds: which may be, and what comes of what is asked. -/
import Derived.Test.YthaaoongjcmleaaGreatDoorJ9
import Derived.Test.YthaaoongjcmleaaGreatDoorJ6
import Derived.Lib.Strings
import Derived.Test.YthaaoongjcmleaaGreatDoorJ8
set_option linter.all false
set_option linter.unusedVariables false
set_option linter.unusedSimpArgs false
namespace Go.Sym
open Go
structure Change where
 pos:Int
 key:ByteArray
 has:Bool
 doc:Doc
structure Sub where
 name:ByteArray
 pos:Int
structure Feed where
 base:Int
 total:Int
 changes:List Change
 subs:List Sub
def Change.enc (O:Opq) (c:Change):List PV:=[.int .i64 c.pos,.str c.key,.bool c.has,.sl false 0 false 6 (O.o Doc.enc c.doc)]
def Chs.enc (O:Opq) (l:List Change):List (List PV):=l.map (Change.enc O)
def Sub.enc (s:Sub):List PV:=[.str s.name,.int .i64 s.pos]
def Subs.enc:List Sub→List (List PV):=List.map Sub.enc
def Feed.encB (O:Opq) (b1 b2:Bool) (f:Feed):List PV:=[.int .i64 f.base,.int .i64 f.total,.sl b1 0 false 4 (O.o (Chs.enc O) f.changes),.sl b2 0 false 2 (O.o Subs.enc f.subs)]
def Feed.enc (O:Opq) (f:Feed):List PV:=[.int .i64 f.base,.int .i64 f.total,.sl false 0 false 4 (O.o (Chs.enc O) f.changes),.sl false 0 false 2 (O.o Subs.enc f.subs)]
def zeroF:Feed:=⟨0,0,[],[]⟩
theorem Chs.enc_len (O:Opq) (l:List Change):(Chs.enc O l).length=l.length:=by simp [Chs.enc]
theorem Subs.enc_len (l:List Sub):(Subs.enc l).length=l.length:=by simp [Subs.enc]
theorem Chs.len (O:Opq) (l:List Change):(O.o (Chs.enc O) l).length=l.length:=by rw[O.h,Chs.enc_len]
theorem Subs.len (O:Opq) (l:List Sub):(O.o Subs.enc l).length=l.length:=by rw[O.h,Subs.enc_len]
def inC (c : Change) : Prop := -9223372036854775808 ≤ c.pos ∧ c.pos ≤ 9223372036854775807
/-! which may be -/
def okC (b:Int) (c:Change) (i:Nat):Prop:=c.pos=b+i+1∧isKey c.key=true∧may c.doc=true∧(c.has=true∨c.doc=[])
def okS (b t:Int) (l:List Sub) (s:Sub) (i:Nat):Prop:=isKey s.name=true∧b≤s.pos∧s.pos≤t∧(0<i→∃ g,l[i-1]?=some g∧slt g.name s.name)
def headF (f:Feed):Prop:=0≤f.base∧f.base≤f.total∧f.total≤2147483647∧f.total-f.base=f.changes.length∧f.subs.length≤8
def allC (f:Feed) (k:Nat):Prop:=∀ i c,i<k→f.changes[i]?=some c→okC f.base c i
def allS (f:Feed) (k:Nat):Prop:=∀ i s,i<k→f.subs[i]?=some s→okS f.base f.total f.subs s i
open Classical in
noncomputable def mayF (f:Feed):Bool:=decide (headF f∧allC f f.changes.length∧allS f f.subs.length)
noncomputable def feedErr (f:Feed):Int:=if mayF f=true then 0 else 1
theorem feedErr_zero {f:Feed}:feedErr f=0 ↔ mayF f=true:=by rw[feedErr];split<;>simp_all
theorem feedErr_one {f:Feed} (h:mayF f=false):feedErr f=1:=by rw[feedErr,h];rfl
theorem mayF_iff {f:Feed}:mayF f=true ↔ headF f∧allC f f.changes.length∧allS f f.subs.length:=by simp [mayF]
theorem mayF_head {f:Feed} (h:¬ headF f):mayF f=false:=by simp [mayF,h]
theorem mayF_badC {f:Feed} {i:Nat} {c:Change} (hx:f.changes[i]?=some c) (h:¬ okC f.base c i):mayF f=false:=by
 simp only [mayF,decide_eq_false_iff_not]
 exact fun k=>h (k.2.1 i c (List.getElem?_eq_some_iff.1 hx).1 hx)
theorem mayF_badS {f:Feed} {i:Nat} {s:Sub} (hx:f.subs[i]?=some s) (h:¬ okS f.base f.total f.subs s i):mayF f=false:=by
 simp only [mayF,decide_eq_false_iff_not]
 exact fun k=>h (k.2.2 i s (List.getElem?_eq_some_iff.1 hx).1 hx)
theorem allC_step {f:Feed} {k:Nat} {c:Change} (h:allC f k) (hx:f.changes[k]?=some c) (hc:okC f.base c k):allC f (k+1):=fun i x hi hy=>by
 by_cases e:i=k
 ·subst e;rw[hx] at hy;cases hy;exact hc
 ·exact h i x (by omega) hy
theorem allS_step {f:Feed} {k:Nat} {c:Sub} (h:allS f k) (hx:f.subs[k]?=some c) (hc:okS f.base f.total f.subs c k):allS f (k+1):=fun i x hi hy=>by
 by_cases e:i=k
 ·subst e;rw[hx] at hy;cases hy;exact hc
 ·exact h i x (by omega) hy
theorem allC_zero (f:Feed):allC f 0:=fun i c hi=>by omega
theorem allS_zero (f:Feed):allS f 0:=fun i c hi=>by omega
theorem mayF_subs {f:Feed} (h:mayF f=true):sortedK Sub.name f.subs:=by
 have h:=(mayF_iff.1 h).2.2
 refine List.pairwise_iff_getElem.2 fun i j hi hj hij=>?_
 have step:∀ n:Nat,∀ k,i+1+n=k→∀ hk:k<f.subs.length,slt f.subs[i].name f.subs[k].name:=by
  intro n
  induction n with
  | zero =>
   intro k e hk
   subst e
   obtain⟨g,hg,hs⟩:=(h (i+1) f.subs[i+1] hk (by simp)).2.2.2 (by omega)
   rw[show i+1-1=i by omega,List.getElem?_eq_getElem hi] at hg
   cases hg;exact hs
  | succ n ih =>
   intro k e hk
   have h1:=ih (k-1) (by omega) (by omega)
   obtain⟨g,hg,hs⟩:=(h k f.subs[k] hk (by simp)).2.2.2 (by omega)
   rw[List.getElem?_eq_getElem (by omega)] at hg
   cases hg
   exact slt_trans h1 hs
 exact step (j-i-1) j (by omega) hj
theorem mayF_of {f:Feed} (h1:headF f) (h2:allC f f.changes.length) (h3:∀ s∈f.subs,isKey s.name=true∧f.base≤s.pos∧s.pos≤f.total) (h4:sortedK Sub.name f.subs):mayF f=true:=by
 refine mayF_iff.2 ⟨h1,h2,fun i s hi hs=>?_⟩
 obtain⟨a,b,c⟩:=h3 s (List.mem_of_getElem? hs)
 refine⟨a,b,c,fun h0=>⟨f.subs[i-1],by simp,?_⟩⟩
 exact sortedK_lt h4 (i:=i-1) (j:=i) (by omega) (by simp) hs
theorem mayF_sub {f:Feed} (h:mayF f=true):∀ s∈f.subs,isKey s.name=true∧f.base≤s.pos∧s.pos≤f.total:=fun s hs=>by
 obtain⟨i,hi,rfl⟩:=List.getElem_of_mem hs
 obtain⟨a,b,c,_⟩:=(mayF_iff.1 h).2.2 i f.subs[i] hi (by simp)
 exact⟨a,b,c⟩
theorem wrap_pos {p b k : Int} (hp : -9223372036854775808 ≤ p ∧ p ≤ 9223372036854775807) (hb : 0 ≤ b) (hb2 : b ≤ 2147483647) (hk : 0 ≤ k) (hk2 : k ≤ 1099511627777) : IntKind.i64.wrap (p - b) = k ↔ p = b + k := by
  unfold IntKind.wrap
  simp [IntKind.bits, IntKind.signed]
  omega
/-! what comes of what is asked -/
noncomputable def addF (f:Feed) (l:List Change):Feed:=⟨f.base,f.total+l.length,f.changes++l,f.subs⟩
noncomputable def addR (f:Feed) (l:List Change):Feed:=if mayF f=true then(if mayF (addF f l)=true then addF f l else f) else zeroF
noncomputable def addE (f:Feed) (l:List Change):Int:=if mayF f=true∧mayF (addF f l)=true then 0 else 1
noncomputable def openE (f:Feed) (name:ByteArray) (pos:Int):Int :=
 if mayF f=true then(if isKey name=true∧0≤pos∧pos≤f.total then(if getK Sub.name f.subs name=true then 11 else if f.subs.length=8 then 2 else if pos<f.base then 8 else 0) else 1) else 1
noncomputable def openF (f:Feed) (name:ByteArray) (pos:Int):Feed:=⟨f.base,f.total,f.changes,insKZ f.subs (posKZ Sub.name f.subs name) ⟨name,pos⟩⟩
noncomputable def openR (f:Feed) (name:ByteArray) (pos:Int):Feed:=if mayF f=true then(if openE f name pos=0 then openF f name pos else f) else zeroF
noncomputable def subPos (f:Feed) (name:ByteArray):Int:=match f.subs[posK Sub.name f.subs name]? with
 | some s=>s.pos
 | none=>0
noncomputable def ackE (f:Feed) (name:ByteArray) (pos:Int):Int :=
 if mayF f=true then(if getK Sub.name f.subs name=true then(if f.total<pos then 1 else if pos<subPos f name then 8 else 0) else 4) else 1
noncomputable def ackF (f:Feed) (name:ByteArray) (pos:Int):Feed:=⟨f.base,f.total,f.changes,f.subs.set (posKZ Sub.name f.subs name).toNat ⟨name,pos⟩⟩
noncomputable def ackR (f:Feed) (name:ByteArray) (pos:Int):Feed:=if mayF f=true then(if ackE f name pos=0 then ackF f name pos else f) else zeroF
noncomputable def closeE (f:Feed) (name:ByteArray):Int:=if mayF f=true then(if getK Sub.name f.subs name=true then 0 else 4) else 1
noncomputable def closeF (f:Feed) (name:ByteArray):Feed:=⟨f.base,f.total,f.changes,f.subs.eraseIdx (posKZ Sub.name f.subs name).toNat⟩
noncomputable def closeR (f:Feed) (name:ByteArray):Feed:=if mayF f=true then(if closeE f name=0 then closeF f name else f) else zeroF
def lowS (p:Int) (l:List Sub):Int:=l.foldl (fun p s=>min p s.pos) p
noncomputable def cutF (f:Feed) (p:Int):Feed:=if f.base<p then⟨p,f.total,f.changes.drop (p-f.base).toNat,f.subs⟩ else f
noncomputable def trimR (f:Feed) (pos:Int):Feed:=if mayF f=true then cutF f (lowS (min pos f.total) f.subs) else zeroF
noncomputable def pullE (f:Feed) (at_ most:Int):Int:=if mayF f=true∧1≤most∧most≤16∧0≤at_∧at_≤f.total then(if at_<f.base then 8 else 0) else 1
noncomputable def pullF (f:Feed) (at_ most:Int):List Change:=(f.changes.drop (at_-f.base).toNat).take most.toNat
noncomputable def pullR (f:Feed) (at_ most:Int):List Change:=if pullE f at_ most=0 then pullF f at_ most else[]
noncomputable def readE (f:Feed) (name:ByteArray) (most:Int):Int:=if mayF f=true then(if getK Sub.name f.subs name=true then pullE f (subPos f name) most else 4) else 1
noncomputable def readR (f:Feed) (name:ByteArray) (most:Int):List Change:=if readE f name most=0 then pullF f (subPos f name) most else[]
noncomputable def readAt (f:Feed) (name:ByteArray) (most:Int):Int:=if readE f name most=0 then subPos f name else 0
open Classical in
noncomputable def sameF (f g:Feed):Bool:=decide (f=g)
open Classical in
noncomputable def sameC (l m:List Change):Bool:=decide (l=m)
theorem pullE_bad {f:Feed} {a m:Int} (h:¬ (mayF f=true∧1≤m∧m≤16∧0≤a∧a≤f.total)):pullE f a m=1∧pullR f a m=[]:=by
 have e:pullE f a m=1:=by rw[pullE,if_neg h]
 exact⟨e,by rw[pullR,e];rfl⟩
theorem pullE_old {f:Feed} {a m:Int} (h:mayF f=true∧1≤m∧m≤16∧0≤a∧a≤f.total) (h2:a<f.base):pullE f a m=8∧pullR f a m=[]:=by
 have e:pullE f a m=8:=by rw[pullE,if_pos h,if_pos h2]
 exact⟨e,by rw[pullR,e];rfl⟩
theorem pullE_ok {f:Feed} {a m:Int} (h:mayF f=true∧1≤m∧m≤16∧0≤a∧a≤f.total) (h2:¬ a<f.base):pullE f a m=0∧pullR f a m=pullF f a m:=by
 have e:pullE f a m=0:=by rw[pullE,if_pos h,if_neg h2]
 exact⟨e,by rw[pullR,e];rfl⟩
theorem readE_bad {f:Feed} {n:ByteArray} {m:Int} (h:mayF f=false):readE f n m=1∧readR f n m=[]∧readAt f n m=0:=by
 have e:readE f n m=1:=by rw[readE,h];rfl
 exact⟨e,by rw[readR,e];rfl,by rw[readAt,e];rfl⟩
theorem readE_none {f:Feed} {n:ByteArray} {m:Int} (h:mayF f=true) (h2:getK Sub.name f.subs n=false):readE f n m=4∧readR f n m=[]∧readAt f n m=0:=by
 have e:readE f n m=4:=by rw[readE,h,h2];rfl
 exact⟨e,by rw[readR,e];rfl,by rw[readAt,e];rfl⟩
theorem readE_at {f:Feed} {n:ByteArray} {m:Int} (h:mayF f=true) (h2:getK Sub.name f.subs n=true):readE f n m=pullE f (subPos f n) m∧readR f n m=pullR f (subPos f n) m∧readAt f n m=if pullE f (subPos f n) m=0 then subPos f n else 0:=by
 have e:readE f n m=pullE f (subPos f n) m:=by rw[readE,h,h2];rfl
 exact⟨e,by rw[readR,e];rfl,by rw[readAt,e]⟩
theorem posKZ_nat {α:Type} {κ:α→ByteArray} {l:List α} {p:ByteArray}:(posKZ κ l p).toNat=posK κ l p:=by simp [posKZ]
theorem subPos_at {f:Feed} {n:ByteArray} {s:Sub} (h:f.subs[posK Sub.name f.subs n]?=some s):subPos f n=s.pos:=by rw[subPos,h]
theorem pullF_enc (O:Opq) (f:Feed) (a m:Int):O.o (Chs.enc O) (pullF f a m)=((O.o (Chs.enc O) f.changes).drop (a-f.base).toNat).take m.toNat:=by
 simp only [O.h];rw[pullF,Chs.enc,List.map_take,List.map_drop];rfl
theorem openE_bad {f:Feed} {n:ByteArray} {a:Int} (h:mayF f=false):openE f n a=1∧openR f n a=zeroF:=by
 exact⟨by rw[openE,h];rfl,by rw[openR,h];rfl⟩
theorem openE_arg {f:Feed} {n:ByteArray} {a:Int} (h:mayF f=true) (h2:¬ (isKey n=true∧0≤a∧a≤f.total)):openE f n a=1∧openR f n a=f:=by
 have e:openE f n a=1:=by rw[openE,if_pos h,if_neg h2]
 exact⟨e,by rw[openR,if_pos h,e];rfl⟩
theorem openE_same {f:Feed} {n:ByteArray} {a:Int} (h:mayF f=true) (h2:isKey n=true∧0≤a∧a≤f.total) (h3:getK Sub.name f.subs n=true):openE f n a=11∧openR f n a=f:=by
 have e:openE f n a=11:=by rw[openE,if_pos h,if_pos h2,if_pos h3]
 exact⟨e,by rw[openR,if_pos h,e];rfl⟩
theorem openE_full {f:Feed} {n:ByteArray} {a:Int} (h:mayF f=true) (h2:isKey n=true∧0≤a∧a≤f.total) (h3:getK Sub.name f.subs n=false) (h4:f.subs.length=8):openE f n a=2∧openR f n a=f:=by
 have e:openE f n a=2:=by rw[openE,if_pos h,if_pos h2,if_neg (by simp [h3]),if_pos h4]
 exact⟨e,by rw[openR,if_pos h,e];rfl⟩
theorem openE_old {f:Feed} {n:ByteArray} {a:Int} (h:mayF f=true) (h2:isKey n=true∧0≤a∧a≤f.total) (h3:getK Sub.name f.subs n=false) (h4:f.subs.length≠8) (h5:a<f.base):openE f n a=8∧openR f n a=f:=by
 have e:openE f n a=8:=by rw[openE,if_pos h,if_pos h2,if_neg (by simp [h3]),if_neg h4,if_pos h5]
 exact⟨e,by rw[openR,if_pos h,e];rfl⟩
theorem openE_ok {f:Feed} {n:ByteArray} {a:Int} (h:mayF f=true) (h2:isKey n=true∧0≤a∧a≤f.total) (h3:getK Sub.name f.subs n=false) (h4:f.subs.length≠8) (h5:¬ a<f.base):openE f n a=0∧openR f n a=openF f n a:=by
 have e:openE f n a=0:=by rw[openE,if_pos h,if_pos h2,if_neg (by simp [h3]),if_neg h4,if_neg h5]
 exact⟨e,by rw[openR,if_pos h,e];rfl⟩
theorem ackE_bad {f:Feed} {n:ByteArray} {a:Int} (h:mayF f=false):ackE f n a=1∧ackR f n a=zeroF:=by
 exact⟨by rw[ackE,h];rfl,by rw[ackR,h];rfl⟩
theorem ackE_none {f:Feed} {n:ByteArray} {a:Int} (h:mayF f=true) (h3:getK Sub.name f.subs n=false):ackE f n a=4∧ackR f n a=f:=by
 have e:ackE f n a=4:=by rw[ackE,if_pos h,if_neg (by simp [h3])]
 exact⟨e,by rw[ackR,if_pos h,e];rfl⟩
theorem ackE_arg {f:Feed} {n:ByteArray} {a:Int} (h:mayF f=true) (h3:getK Sub.name f.subs n=true) (h4:f.total<a):ackE f n a=1∧ackR f n a=f:=by
 have e:ackE f n a=1:=by rw[ackE,if_pos h,if_pos h3,if_pos h4]
 exact⟨e,by rw[ackR,if_pos h,e];rfl⟩
theorem ackE_old {f:Feed} {n:ByteArray} {a:Int} (h:mayF f=true) (h3:getK Sub.name f.subs n=true) (h4:¬ f.total<a) (h5:a<subPos f n):ackE f n a=8∧ackR f n a=f:=by
 have e:ackE f n a=8:=by rw[ackE,if_pos h,if_pos h3,if_neg h4,if_pos h5]
 exact⟨e,by rw[ackR,if_pos h,e];rfl⟩
theorem ackE_ok {f:Feed} {n:ByteArray} {a:Int} (h:mayF f=true) (h3:getK Sub.name f.subs n=true) (h4:¬ f.total<a) (h5:¬ a<subPos f n):ackE f n a=0∧ackR f n a=ackF f n a:=by
 have e:ackE f n a=0:=by rw[ackE,if_pos h,if_pos h3,if_neg h4,if_neg h5]
 exact⟨e,by rw[ackR,if_pos h,e];rfl⟩
theorem closeE_bad {f:Feed} {n:ByteArray} (h:mayF f=false):closeE f n=1∧closeR f n=zeroF:=by
 exact⟨by rw[closeE,h];rfl,by rw[closeR,h];rfl⟩
theorem closeE_none {f:Feed} {n:ByteArray} (h:mayF f=true) (h3:getK Sub.name f.subs n=false):closeE f n=4∧closeR f n=f:=by
 have e:closeE f n=4:=by rw[closeE,if_pos h,if_neg (by simp [h3])]
 exact⟨e,by rw[closeR,if_pos h,e];rfl⟩
theorem closeE_ok {f:Feed} {n:ByteArray} (h:mayF f=true) (h3:getK Sub.name f.subs n=true):closeE f n=0∧closeR f n=closeF f n:=by
 have e:closeE f n=0:=by rw[closeE,if_pos h,if_pos h3]
 exact⟨e,by rw[closeR,if_pos h,e];rfl⟩
theorem addE_bad {f:Feed} {l:List Change} (h:mayF f=false):addE f l=1∧addR f l=zeroF:=by
 exact⟨by rw[addE,if_neg (by simp [h])],by rw[addR,h];rfl⟩
theorem addE_no {f:Feed} {l:List Change} (h:mayF f=true) (h2:mayF (addF f l)=false):addE f l=1∧addR f l=f:=by
 exact⟨by rw[addE,if_neg (by simp [h2])],by rw[addR,if_pos h,h2];rfl⟩
theorem addE_ok {f:Feed} {l:List Change} (h:mayF f=true) (h2:mayF (addF f l)=true):addE f l=0∧addR f l=addF f l:=by
 exact⟨by rw[addE,if_pos ⟨h,h2⟩],by rw[addR,if_pos h,if_pos h2]⟩
inductive Cel where
 | mk (kind num:Int) (text:ByteArray) (list:List Cel)
def Cel.kind:Cel→Int | .mk k _ _ _=>k
def Cel.num:Cel→Int | .mk _ n _ _=>n
def Cel.text:Cel→ByteArray | .mk _ _ t _=>t
def Cel.list:Cel→List Cel | .mk _ _ _ l=>l
mutual
def Cel.enc:Cel→List PV
 | .mk k n t l=>[.int .i64 k,.int .i64 n,.str t,.sl false 0 false 4 (Cels.enc l)]
def Cels.enc:List Cel→List (List PV)
 | []=>[]
 | c::l=>c.enc::Cels.enc l
end
theorem Cels.enc_map:∀ l:List Cel,Cels.enc l=l.map Cel.enc
 | []=>by simp [Cels.enc]
 | c::l=>by rw[Cels.enc,Cels.enc_map l];rfl
theorem Cels.enc_len (l:List Cel):(Cels.enc l).length=l.length:=by rw[Cels.enc_map];simp
mutual
def Cel.size : Cel → Nat
  | .mk _ _ _ l => 1 + Cels.size l
def Cels.size : List Cel → Nat
  | [] => 0
  | c :: l => c.size + Cels.size l
end
theorem Cels.size_mem:∀ {l:List Cel} {c:Cel},c∈l→c.size≤Cels.size l
 | d::l,c,h=>by
  rw[Cels.size]
  rcases List.mem_cons.1 h with rfl|h
  ·omega
  ·have:=Cels.size_mem h;omega
def deepN:Nat→Cel→Bool
 | 0,_=>true
 | n+1,.mk _ _ _ l=>l.any (deepN n)
open Classical in
mutual
noncomputable def pureC : Cel → Bool
  | .mk k n t l => if k = 1 then decide (-9007199254740992 ≤ n ∧ n ≤ 9007199254740992 ∧ t = ByteArray.empty ∧ l.length = 0) else if k = 2 then decide (n = 0 ∧ l.length = 0) else if k = 3 then decide (n = 0 ∧ t = ByteArray.empty ∧ pureCs l = true) else false
noncomputable def pureCs : List Cel → Bool
  | [] => true
  | c :: l => pureC c && pureCs l
end
theorem pureCs_all:∀ l:List Cel,pureCs l=l.all pureC
 | []=>by simp [pureCs]
 | c::l=>by rw[pureCs,pureCs_all l];rfl
noncomputable def notPure (c:Cel):Bool:=!pureC c
theorem pureCs_find {l:List Cel}:pureCs l=true ↔ findI notPure l=-1:=by
 rw[pureCs_all]
 constructor
 ·intro h
  exact findI_none fun j y hj hy=>by simp [notPure,List.all_eq_true.1 h y (List.mem_of_getElem? hy)]
 ·intro h
  have hn:¬ 0≤findI notPure l:=by rw[h];decide
  rw[findI_ge] at hn
  rw[List.all_eq_true]
  intro x hx
  cases hp:pureC x with
  | true=>rfl
  | false=>exact absurd (List.any_eq_true.2 ⟨x,hx,by simp [notPure,hp]⟩) hn
mutual
def countC : Cel → Int → Int
  | .mk _ _ t l, x => if 65536 < t.size then -1 else countCs l (x - 1)
def countCs : List Cel → Int → Int
  | [], x => x
  | c :: l, x => if x < 0 then -1 else countCs l (countC c x)
end
mutual
theorem countC_le:∀ (c:Cel) (x:Int),0≤x→-1≤countC c x∧countC c x≤x
 | .mk k n t l,x,h=>by
  rw[countC]
  split
  ·omega
  ·have:=countCs_le l (x-1) (by omega);omega
theorem countCs_le:∀ (l:List Cel) (x:Int),-1≤x→-1≤countCs l x∧(countCs l x≤x∨countCs l x=-1)
 | [],x,h=>by rw[countCs];omega
 | c::l,x,h=>by
  rw[countCs]
  split
  ·omega
  ·have h1:=countC_le c x (by omega)
   have h2:=countCs_le l (countC c x) h1.1
   omega
end
theorem Cels.len_size:∀ l:List Cel,l.length≤Cels.size l
 | []=>by simp [Cels.size]
 | .mk k n t m::l=>by
  rw[Cels.size,Cel.size,List.length_cons]
  have:=Cels.len_size l
  omega
theorem Cel.len_size (c:Cel):c.list.length≤c.size:=by
 obtain⟨k,n,t,l⟩:=c
 rw[Cel.size]
 have:=Cels.len_size l
 show l.length≤_
 omega
noncomputable def celErr (c:Cel):Int:=if deepN 12 c=true then 13 else if pureC c=false then 1 else if countC c 4096<0 then 3 else 0
def Cel.en (O:Opq) (c:Cel):List PV:=[.int .i64 c.kind,.int .i64 c.num,.str c.text,.sl false 0 false 4 (O.o Cels.enc c.list)]
theorem Cel.en_eq (O:Opq) (c:Cel):c.enc=c.en O:=by
 obtain⟨k,n,t,l⟩:=c
 simp only [Cel.enc,Cel.en,O.h]
 rfl
theorem Cels.en_eq (O:Opq) (l:List Cel):Cels.enc l=l.map (Cel.en O):=by
 rw[Cels.enc_map];exact List.map_congr_left fun c _=>Cel.en_eq O c
theorem Cels.en_len (O:Opq) (l:List Cel):(O.o Cels.enc l).length=l.length:=by rw[O.h,Cels.enc_len]
theorem Ex.cel (O:Opq) {l:List Cel} {k:Nat} {x:Cel} (hx:l[k]?=some x) {i:Int} {K:List PV→Prop} (hi:i=k) (h:K (x.en O)):Ex (List PV) (fun row=>0≤i∧(O.o Cels.enc l)[i.toNat]?=some row) K :=
 .mk (x.en O) ⟨by omega,by rw[O.h,Cels.en_eq O,List.getElem?_map,hi,Int.toNat_natCast,hx];rfl⟩ h
def numC (n:Int):Cel:=.mk 1 n ByteArray.empty []
def textC (s:ByteArray):Cel:=.mk 2 0 s []
def listC (l:List Cel):Cel:=.mk 3 0 ByteArray.empty l
def noC:Cel:=.mk 0 0 ByteArray.empty []
def valC (v:Val):Cel:=if v.kind=1 then numC v.num else if v.kind=2 then textC v.text else listC [numC v.re,numC v.im]
def fieldC (f:Field):Cel:=listC [textC f.path,valC f.val]
def docC (d:Doc):Cel:=listC (d.map fieldC)
def fieldsC (d:Doc) (k:Nat):List (List PV):=Cels.enc ((d.take k).map fieldC)
theorem fieldsC_len {d:Doc} {k:Nat} (h:k≤d.length):(fieldsC d k).length=k:=by rw[fieldsC,Cels.enc_len];simp;omega
theorem Cels.enc_append (l m:List Cel):Cels.enc (l++m)=Cels.enc l++Cels.enc m:=by simp [Cels.enc_map]
theorem fieldsC_step {d:Doc} {k:Nat} {f:Field} (h:d[k]?=some f):fieldsC d (k+1)=fieldsC d k++[(fieldC f).enc]:=by
 rw[fieldsC,List.take_add_one,h,List.map_append,Cels.enc_append];rfl
theorem fieldsC_all {d:Doc} {k:Nat} (h:d.length≤k):fieldsC d k=Cels.enc (docC d).list:=by
 rw[fieldsC,List.take_of_length_le h];rfl
theorem fieldC_enc (O:Opq) (f:Field):(fieldC f).enc=[.int .i64 3,.int .i64 0,.str ByteArray.empty,.sl false 0 false 4 [(textC f.path).en O,(O.o valC f.val).en O]]:=by
 rw[fieldC,listC,Cel.enc,Cels.enc_map]
 simp only [List.map_cons,List.map_nil,Cel.en_eq O,O.h]
theorem fieldsC_more (O:Opq) {d:Doc} {k:Nat} {f:Field} (h:d[k]?=some f):O.o (fieldsC d) (k+1)=O.o (fieldsC d) k++[[.int .i64 3,.int .i64 0,.str ByteArray.empty,.sl false 0 false 4 [(textC f.path).en O,(O.o valC f.val).en O]]]:=by
 rw[← fieldC_enc]
 simp only [O.h]
 exact fieldsC_step h
noncomputable def cellR (d:Doc):Cel:=if may d=true then docC d else noC
theorem valC_size (v:Val):(valC v).size≤3:=by
 unfold valC;split
 ·simp [numC,Cel.size,Cels.size]
 ·split<;>simp [textC,listC,numC,Cel.size,Cels.size]
theorem fields_size:∀ d:Doc,Cels.size (d.map fieldC)≤5 * d.length
 | []=>by simp [Cels.size]
 | f::d=>by
  have:=fields_size d
  have:=valC_size f.val
  rw[List.map_cons,Cels.size,fieldC,listC,Cel.size,Cels.size,Cels.size,Cels.size,List.length_cons,textC,Cel.size,Cels.size]
  omega
theorem Cel.size_list (c:Cel):c.size=1+Cels.size c.list:=by obtain⟨k,n,t,l⟩:=c;rfl
theorem deepN_list {n:Nat} {c:Cel}:deepN (n+1) c=c.list.any (deepN n):=by obtain⟨k,m,t,l⟩:=c;rfl
theorem deepN_mono:∀ {n:Nat} {c:Cel},deepN n c=false→deepN (n+1) c=false
 | 0,c,h=>by simp [deepN] at h
 | n+1,c,h=>by
  rw[deepN_list,List.any_eq_false] at h ⊢
  intro x hx
  have:=deepN_mono (n:=n) (c:=x) (by simpa using h x hx)
  simpa using this
theorem valC_deep (v:Val):deepN 2 (valC v)=false:=by
 unfold valC
 split
 ·rfl
 ·split
  ·rfl
  ·rfl
theorem docC_deep (d:Doc):deepN 4 (docC d)=false:=by
 rw[deepN_list,List.any_eq_false]
 intro x hx
 simp only [docC,listC,Cel.list,List.mem_map] at hx
 obtain⟨f,_,rfl⟩:=hx
 rw[deepN_list,Bool.not_eq_true,List.any_eq_false]
 intro y hy
 simp only [fieldC,listC,Cel.list,List.mem_cons,List.not_mem_nil,or_false] at hy
 rcases hy with rfl|rfl
 ·simp [deepN,textC]
 ·rw[valC_deep];decide
theorem docC_deep12 (d:Doc):deepN 12 (docC d)=false:=by
 have h:=docC_deep d
 iterate 8 replace h:=deepN_mono h
 exact h
theorem pureC_num {n:Int} (h:-9007199254740992≤n∧n≤9007199254740992):pureC (numC n)=true:=by simp [numC,pureC,h]
theorem pureC_text {s:ByteArray}:pureC (textC s)=true:=by simp [textC,pureC]
theorem pureC_list {l:List Cel}:pureC (listC l)=pureCs l:=by simp [listC,pureC]
theorem pureC_val {v:Val} (h:v.Ok):pureC (valC v)=true:=by
 unfold valC
 rcases h with h|h|h
 ·rw[if_pos h.1];exact pureC_num h.2.2.2.2
 ·rw[if_neg (by omega),if_neg (by omega),pureC_list]
  simp only [pureCs,pureC_num (n:=v.re) (by omega),pureC_num (n:=v.im) (by omega),Bool.and_self]
 ·rw[if_neg (by omega),if_pos h.1];exact pureC_text
theorem may_all {d:Doc} (h:may d=true):∀ f∈d,isPath f.path=true∧f.val.Ok:=by
 simp only [may,decide_eq_true_eq] at h
 intro f hf
 obtain⟨i,hi,rfl⟩:=List.getElem_of_mem hf
 obtain⟨g,hg,h1,h2,_⟩:=h.2 i hi
 rw[List.getElem?_eq_getElem hi] at hg
 cases hg
 exact⟨h1,h2⟩
theorem may_len {d:Doc} (h:may d=true):d.length≤16:=by
 simp only [may,decide_eq_true_eq] at h;exact h.1
theorem docC_pure {d:Doc} (h:∀ f∈d,f.val.Ok):pureC (docC d)=true:=by
 rw[docC,pureC_list,pureCs_all,List.all_eq_true]
 intro x hx
 obtain⟨f,hf,rfl⟩:=List.mem_map.1 hx
 rw[fieldC,pureC_list]
 simp only [pureCs,pureC_text,pureC_val (h f hf),Bool.and_self]
theorem isPath_size {s:ByteArray} (h:isPath s=true):s.size≤64:=by
 simp only [isPath,Bool.and_eq_true,decide_eq_true_eq] at h;exact h.2
theorem countC_text {s:ByteArray} {x:Int} (h:s.size≤65536):countC (textC s) x=x-1:=by
 rw[textC,countC,if_neg (by omega),countCs]
theorem countC_num {n x:Int}:countC (numC n) x=x-1:=by
 rw[numC,countC,if_neg (by decide),countCs]
theorem countC_val {v:Val} (h:v.Ok) {x:Int} (hx:3≤x):x-3≤countC (valC v) x:=by
 unfold valC
 split
 ·rw[countC_num];omega
 ·split
  ·rw[countC_text (by rcases h with h|h|h<;>omega)];omega
  ·rw[listC,countC,if_neg (by decide),countCs,if_neg (by omega),countC_num,countCs,if_neg (by omega),countC_num,countCs];omega
theorem countC_field {f:Field} (h:isPath f.path=true) (hv:f.val.Ok) {x:Int} (hx:5≤x):x-5≤countC (fieldC f) x:=by
 have h1:=isPath_size h
 have h2:=countC_val hv (x:=x-1-1) (by omega)
 rw[fieldC,listC,countC,if_neg (by decide),countCs,if_neg (by omega),countC_text (by omega),countCs,if_neg (by omega),countCs]
 omega
theorem countCs_fields:∀ {d:Doc},(∀ f∈d,isPath f.path=true∧f.val.Ok)→∀ {x:Int},5 * d.length≤x→x-5 * d.length≤countCs (d.map fieldC) x
 | [],_,x,h=>by simp [countCs]
 | f::d,hf,x,h=>by
  rw[List.map_cons,countCs,if_neg (by simp only [List.length_cons] at h;omega)]
  have h1:=countC_field (hf f (by simp)).1 (hf f (by simp)).2 (x:=x) (by simp only [List.length_cons] at h;omega)
  have h2:=countCs_fields (d:=d) (fun g hg=>hf g (List.mem_cons_of_mem _ hg)) (x:=countC (fieldC f) x) (by simp only [List.length_cons] at h;omega)
  simp only [List.length_cons]
  omega
theorem docC_ok {d:Doc} (h:may d=true):celErr (docC d)=0:=by
 have ha:=may_all h
 have hl:=may_len h
 rw[celErr,if_neg (by rw[docC_deep12];decide),if_neg (by rw[docC_pure fun f hf=>(ha f hf).2];decide),if_neg]
 rw[docC,listC,countC,if_neg (by decide)]
 have:=countCs_fields ha (x:=4096-1) (by omega)
 omega
theorem celErr_zero {c:Cel}:celErr c=0→deepN 12 c=false∧pureC c=true:=by
 unfold celErr
 intro h
 split at h
 ·cases h
 ·split at h
  ·cases h
  ·rename_i h1 h2
   exact⟨by simpa using h1,by simpa using h2⟩
theorem pure_num {c:Cel} (h:pureC c=true) (hk:c.kind=1):c=numC c.num:=by
 obtain⟨k,n,t,l⟩:=c
 replace hk:k=1:=hk
 subst hk
 simp only [pureC,if_true,decide_eq_true_eq] at h
 obtain⟨_,_,rfl,h4⟩:=h
 rw[List.length_eq_zero_iff.1 h4];rfl
theorem pure_text {c:Cel} (h:pureC c=true) (hk:c.kind=2):c=textC c.text:=by
 obtain⟨k,n,t,l⟩:=c
 replace hk:k=2:=hk
 subst hk
 simp [pureC] at h
 obtain⟨rfl,rfl⟩:=h
 rfl
theorem pure_list {c:Cel} (h:pureC c=true) (hk:c.kind=3):c=listC c.list∧∀ x∈c.list,pureC x=true:=by
 obtain⟨k,n,t,l⟩:=c
 replace hk:k=3:=hk
 subst hk
 simp [pureC] at h
 obtain⟨rfl,rfl,h⟩:=h
 rw[pureCs_all,List.all_eq_true] at h
 exact⟨rfl,h⟩
theorem docC_size {d:Doc} (h:may d=true):(docC d).size≤100:=by
 have:=fields_size d
 have:=may_len h
 rw[docC,listC,Cel.size];omega
def bts (l:List UInt8):List (List PV):=l.map fun b=>[PV.int .u8 b.toNat]
theorem bts_len (l:List UInt8):(bts l).length=l.length:=by simp [bts]
theorem bts_append (l m:List UInt8):bts (l++m)=bts l++bts m:=by simp [bts]
theorem byteRows_eq (s:ByteArray):byteRows s=bts s.data.toList:=rfl
def numB (n:Nat):List UInt8:=if n<128 then[UInt8.ofNat n] else UInt8.ofNat (n % 128+128)::numB (n / 128)
termination_by n
decreasing_by omega
theorem numB_lo {n:Nat} (h:n<128):numB n=[UInt8.ofNat n]:=by rw[numB,if_pos h]
theorem numB_hi {n:Nat} (h:¬ n<128):numB n=UInt8.ofNat (n % 128+128)::numB (n / 128):=by rw[numB,if_neg h]
theorem numB_len {n:Nat}:∀ {k:Nat},n<128 ^ (k+1)→(numB n).length≤k+1:=by
 intro k
 induction k generalizing n with
 | zero=>intro h;rw[numB_lo (by simpa using h)];simp
 | succ k ih =>
  intro h
  by_cases hn:n<128
  ·rw[numB_lo hn];simp
  ·rw[numB_hi hn,List.length_cons]
   have:=ih (n:=n / 128) (by rw[Nat.div_lt_iff_lt_mul (by decide),← Nat.pow_succ];exact h)
   omega
def zig (m:Int):Nat:=if m<0 then(-2 * m-1).toNat else(2 * m).toNat
mutual
def putC : Cel → List UInt8
  | .mk k n t l => UInt8.ofNat k.toNat :: (if k = 1 then numB (zig n) else if k = 2 then numB t.size ++ t.data.toList else numB l.length ++ putCs l)
def putCs : List Cel → List UInt8
  | [] => []
  | c :: l => putC c ++ putCs l
end
theorem putCs_append (l m:List Cel):putCs (l++m)=putCs l++putCs m:=by
 induction l with
 | nil=>simp [putCs]
 | cons c l ih=>rw[List.cons_append,putCs,putCs,ih,List.append_assoc]
mutual
def shortC : Cel → Bool
  | .mk _ _ t l => decide (t.size ≤ 65536) && shortCs l
def shortCs : List Cel → Bool
  | [] => true
  | c :: l => shortC c && shortCs l
end
mutual
theorem countC_size:∀ (c:Cel) (x:Int),0≤countC c x→countC c x=x-c.size∧shortC c=true
 | .mk k n t l,x,h=>by
  rw[countC] at h ⊢
  split at h
  ·omega
  ·rename_i ht
   obtain⟨h1,h2⟩:=countCs_size l (x-1) h
   rw[if_neg ht,h1,Cel.size,shortC,h2,Bool.and_true,decide_eq_true_eq]
   omega
theorem countCs_size:∀ (l:List Cel) (x:Int),0≤countCs l x→countCs l x=x-Cels.size l∧shortCs l=true
 | [],x,h=>by simp [countCs,Cels.size,shortCs]
 | c::l,x,h=>by
  rw[countCs] at h ⊢
  split at h
  ·omega
  ·rename_i hx
   obtain⟨h1,h2⟩:=countCs_size l (countC c x) h
   have h3:=countC_size c x (by omega)
   rw[if_neg hx,h1,h3.1,Cels.size,shortCs,h2,h3.2]
   exact⟨by omega,rfl⟩
end
theorem shortCs_all:∀ {l:List Cel},shortCs l=true→∀ c∈l,shortC c=true
 | c::l,h,d,hd=>by
  simp only [shortCs,Bool.and_eq_true] at h
  rcases List.mem_cons.1 hd with rfl|hd
  ·exact h.1
  ·exact shortCs_all h.2 d hd
structure GoodC (n:Nat) (c:Cel):Prop where
 deep:deepN n c=false
 pure:pureC c=true
 short:shortC c=true
theorem pureC_kind {k n:Int} {t:ByteArray} {l:List Cel} (h:pureC (.mk k n t l)=true):k=1∨k=2∨k=3:=by
 by_cases h1:k=1
 ·exact .inl h1
 by_cases h2:k=2
 ·exact .inr (.inl h2)
 by_cases h3:k=3
 ·exact .inr (.inr h3)
 simp [pureC,h1,h2,h3] at h
theorem celErr_good {c:Cel} (h:celErr c=0):GoodC 12 c∧c.size≤4096:=by
 obtain⟨h1,h2⟩:=celErr_zero h
 have h3:0≤countC c 4096:=by
  unfold celErr at h
  rw[if_neg (by rw[h1];decide),if_neg (by rw[h2];decide)] at h
  split at h
  ·cases h
  ·omega
 obtain⟨h4,h5⟩:=countC_size c 4096 h3
 exact⟨⟨h1,h2,h5⟩,by omega⟩
noncomputable def encE (c:Cel):Int:=if celErr c≠0 then celErr c else if (putC c).length≤65536 then 0 else 3
noncomputable def encB (c:Cel):List UInt8:=if encE c=0 then putC c else[]
theorem Named.w8 {x:Int} {K:Int→Prop} (h:0≤x) (k:∀ n,n=x % 256→0≤n→n<256→K n):Named Int (fun _=>IntKind.u8.wrap x) K:=.mk fun n hn=>by
 have:n=x % 256:=by rw[hn];unfold IntKind.wrap;simp [IntKind.bits,IntKind.signed]
 exact k n this (by omega) (by omega)
theorem Named.w8s {x:Int} {K:Int→Prop} (h:0≤x∧x<256) (k:∀ n,n=x→K n):Named Int (fun _=>IntKind.u8.wrap x) K:=.mk fun n hn=>by
 have:n=x % 256:=by rw[hn];unfold IntKind.wrap;simp [IntKind.bits,IntKind.signed]
 exact k n (by omega)
theorem or128:∀ n:Fin 256,bitsVal .or .u8 (n.val:Int) 128=((n.val % 128+128:Nat):Int):=by decide +kernel
theorem Named.or128 {x:Int} {K:Int→Prop} (h:0≤x∧x<256) (k:∀ n,n=x % 128+128→K n):Named Int (fun _=>bitsVal .or .u8 x 128) K:=.mk fun n hn=>k n (by
 have:=Go.Sym.or128 ⟨x.toNat,by omega⟩
 simp only [show((x.toNat:Nat):Int)=x by omega] at this
 rw[hn,this];omega)
theorem Named.shr7 {x:Int} {K:Int→Prop} (k:∀ n,n=x / 128→K n):Named Int (fun _=>x.fdiv (2 ^ min (Int.toNat 7) IntKind.i64.bits)) K:=.mk fun n hn=>k n (by
 rw[hn];exact Int.fdiv_eq_ediv_of_nonneg _ (by decide))
theorem Named.rem {x y:Int} {K:Int→Prop} (h:0≤x∧0<y) (k:∀ n,n=x % y→K n):Named Int (fun _=>x.tmod y) K:=.mk fun n hn=>k n (by
 rw[hn];exact Int.tmod_eq_emod_of_nonneg h.1)
theorem Named.quo {x y:Int} {K:Int→Prop} (h:0≤x∧0<y∧x<9223372036854775808) (k:∀ n,n=x / y→K n):Named Int (fun _=>IntKind.i64.wrap (x.tdiv y)) K:=.mk fun n hn=>k n (by
 have e:x.tdiv y=x / y:=Int.tdiv_eq_ediv_of_nonneg h.1
 have h1:0≤x / y:=Int.ediv_nonneg h.1 (by omega)
 have h2:x / y≤x:=Int.ediv_le_self _ h.1
 rw[hn,e,wrap64 (by omega)])
theorem putCs_take {v:List Cel} {i:Nat} {x:Cel} (h:v[i]?=some x):putCs (v.take (i+1))=putCs (v.take i)++putC x:=by
 rw[List.take_add_one,h,putCs_append]
 show _++putCs [x]=_
 rw[putCs,putCs,List.append_nil]
def listB (b1:List UInt8) (v:List Cel) (i:Nat):List UInt8:=b1++putCs (v.take i)
theorem listB_zero (b1:List UInt8) (v:List Cel):listB b1 v 0=b1:=by simp [listB,putCs]
theorem listB_more {b1:List UInt8} {v:List Cel} {i:Nat} {x:Cel} (h:v[i]?=some x):listB b1 v (i+1)=listB b1 v i++putC x:=by
 rw[listB,putCs_take h,listB,List.append_assoc]
theorem listB_all {b1:List UInt8} {v:List Cel} {i:Nat} (h:v.length≤i):listB b1 v i=b1++putCs v:=by
 rw[listB,List.take_of_length_le h]
theorem listB_le {b1:List UInt8} {v:List Cel} {i:Nat}:(listB b1 v i).length≤(b1++putCs v).length:=by
 have:putCs v=putCs (v.take i)++putCs (v.drop i):=by rw[← putCs_append,List.take_append_drop]
 rw[this,listB];simp only [List.length_append];omega
def btsI (b1:List UInt8) (v:List Cel) (i:Nat):List (List PV):=bts (listB b1 v i)
theorem Cels.size_at:∀ {v:List Cel} {i:Nat} {x:Cel},v[i]?=some x→x.size≤Cels.size v:=fun h=>Cels.size_mem (List.mem_of_getElem? h)
end Go.Sym
