/- Documents by their keys, and what is asked of them. -/
import Derived.Test.YthaaoongjcmleaaGreatDoorJ10
import Derived.Test.YthaaoongjcmleaaGreatDoorJ9
import Derived.Test.YthaaoongjcmleaaGreatDoorJ8
set_option linter.all false
set_option linter.unusedVariables false
set_option linter.unusedSimpArgs false
namespace Go.Sym
open Go
structure Ndoc where
 key:ByteArray
 doc:Doc
structure PairK where
 key:ByteArray
 val:ByteArray
structure Answer where
 code:Int
 has:Bool
 doc:Doc
 docs:List Ndoc
 news:List Change
 n:Int
 total:Int
 keys:List PairK
inductive Opn where
 | mk (kind:Int) (key to:ByteArray) (doc want:Doc) (has:Bool) (n most:Int) (list:List Opn) (docs:List Ndoc) (news:List Change)
def Opn.kind:Opn→Int | .mk k _ _ _ _ _ _ _ _ _ _=>k
def Opn.key:Opn→ByteArray | .mk _ k _ _ _ _ _ _ _ _ _=>k
def Opn.to:Opn→ByteArray | .mk _ _ k _ _ _ _ _ _ _ _=>k
def Opn.doc:Opn→Doc | .mk _ _ _ k _ _ _ _ _ _ _=>k
def Opn.want:Opn→Doc | .mk _ _ _ _ k _ _ _ _ _ _=>k
def Opn.has:Opn→Bool | .mk _ _ _ _ _ k _ _ _ _ _=>k
def Opn.n:Opn→Int | .mk _ _ _ _ _ _ k _ _ _ _=>k
def Opn.most:Opn→Int | .mk _ _ _ _ _ _ _ k _ _ _=>k
def Opn.list:Opn→List Opn | .mk _ _ _ _ _ _ _ _ k _ _=>k
def Opn.docs:Opn→List Ndoc | .mk _ _ _ _ _ _ _ _ _ k _=>k
def Opn.news:Opn→List Change | .mk _ _ _ _ _ _ _ _ _ _ k=>k
def Ndoc.enc (O:Opq) (n:Ndoc):List PV:=[.str n.key,.sl false 0 false 6 (O.o Doc.enc n.doc)]
def Nms.enc (O:Opq) (l:List Ndoc):List (List PV):=l.map (Ndoc.enc O)
def PairK.enc (p:PairK):List PV:=[.str p.key,.str p.val]
def Prs.enc:List PairK→List (List PV):=List.map PairK.enc
theorem Nms.len (O:Opq) (l:List Ndoc):(O.o (Nms.enc O) l).length=l.length:=by rw[O.h,Nms.enc,List.length_map]
theorem Prs.len (O:Opq) (l:List PairK):(O.o Prs.enc l).length=l.length:=by rw[O.h,Prs.enc,List.length_map]
def Answer.enc (O:Opq) (a:Answer):List PV:=[.int .i64 a.code,.bool a.has,.sl false 0 false 6 (O.o Doc.enc a.doc),.sl false 0 false 2 (O.o (Nms.enc O) a.docs),.sl false 0 false 4 (O.o (Chs.enc O) a.news),.int .i64 a.n,.int .i64 a.total,.sl false 0 false 2 (O.o Prs.enc a.keys)]
mutual
def Opn.enc (O:Opq):Opn→List PV
 | .mk k key to d w h n m l ds ns=>[.int .i64 k,.str key,.str to,.sl false 0 false 6 (O.o Doc.enc d),.sl false 0 false 6 (O.o Doc.enc w),.bool h,.int .i64 n,.int .i64 m,.sl false 0 false 11 (Ops.enc O l),.sl false 0 false 2 (O.o (Nms.enc O) ds),.sl false 0 false 4 (O.o (Chs.enc O) ns)]
def Ops.enc (O:Opq):List Opn→List (List PV)
 | []=>[]
 | o::l=>o.enc O::Ops.enc O l
end
theorem Ops.enc_map (O:Opq):∀ l:List Opn,Ops.enc O l=l.map (Opn.enc O)
 | []=>by simp [Ops.enc]
 | c::l=>by rw[Ops.enc,Ops.enc_map O l];rfl
theorem Ops.len (O:Opq) (l:List Opn):(O.o (Ops.enc O) l).length=l.length:=by rw[O.h,Ops.enc_map];simp
def Opn.en (O:Opq) (o:Opn):List PV:=[.int .i64 o.kind,.str o.key,.str o.to,.sl false 0 false 6 (O.o Doc.enc o.doc),.sl false 0 false 6 (O.o Doc.enc o.want),.bool o.has,.int .i64 o.n,.int .i64 o.most,.sl false 0 false 11 (O.o (Ops.enc O) o.list),.sl false 0 false 2 (O.o (Nms.enc O) o.docs),.sl false 0 false 4 (O.o (Chs.enc O) o.news)]
theorem Opn.en_eq (O:Opq) (o:Opn):o.enc O=o.en O:=by
 obtain⟨k,key,to,d,w,h,n,m,l,ds,ns⟩:=o
 rw[Opn.enc,Opn.en,O.h (Ops.enc O)];rfl
theorem Ops.en_eq (O:Opq) (l:List Opn):Ops.enc O l=l.map (Opn.en O):=by
 rw[Ops.enc_map];exact List.map_congr_left fun c _=>Opn.en_eq O c
theorem Ex.opn (O : Opq) {l : List Opn} {k : Nat} {x : Opn} (hx : l[k]? = some x) {i : Int} {K : List PV → Prop} (hi : i = k) (h : K (x.en O)) : Ex (List PV) (fun row => 0 ≤ i ∧ (O.o (Ops.enc O) l)[i.toNat]? = some row) K :=
  .mk (x.en O) ⟨by omega, by rw [O.h, Ops.en_eq O, List.getElem?_map, hi, Int.toNat_natCast, hx]; rfl⟩ h
/-! which documents may be -/
def okN (l:List Ndoc) (i:Nat):Prop:=∃ n,l[i]?=some n∧isKey n.key=true∧may n.doc=true∧(0<i→∃ g,l[i-1]?=some g∧slt g.key n.key)
open Classical in
noncomputable def docsOk (l:List Ndoc):Bool:=decide (∀ i,i<l.length→okN l i)
noncomputable def mayD (l:List Ndoc):Bool:=decide (l.length≤24) && docsOk l
noncomputable def docsErr (l:List Ndoc):Int:=if docsOk l=true then 0 else 1
noncomputable def mayDE (l:List Ndoc):Int:=if mayD l=true then 0 else 1
theorem docsErr_zero {l:List Ndoc}:docsErr l=0 ↔ docsOk l=true:=by rw[docsErr];split<;>simp_all
theorem mayDE_zero {l:List Ndoc}:mayDE l=0 ↔ mayD l=true:=by rw[mayDE];split<;>simp_all
theorem okN_iff {l:List Ndoc} {k:Nat} {x:Ndoc} (h:l[k]?=some x):okN l k ↔ isKey x.key=true∧may x.doc=true∧(0<k→∃ g,l[k-1]?=some g∧slt g.key x.key):=by
 simp only [okN,h,Option.some.injEq]
 exact⟨fun⟨f,e,k⟩=>by subst e;exact k,fun k=>⟨x,rfl,k⟩⟩
theorem docsOk_bad {l:List Ndoc} {i:Nat} {x:Ndoc} (hx:l[i]?=some x) (h:¬ (isKey x.key=true∧may x.doc=true∧(0<i→∃ g,l[i-1]?=some g∧slt g.key x.key))):docsOk l=false:=by
 simp only [docsOk,decide_eq_false_iff_not]
 exact fun k=>h ((okN_iff hx).1 (k i (List.getElem?_eq_some_iff.1 hx).1))
theorem docsOk_good {l:List Ndoc} (h:∀ i,i<l.length→okN l i):docsOk l=true:=by
 simp only [docsOk,decide_eq_true_eq];exact h
theorem okN_step {l:List Ndoc} {k:Nat} (h:∀ j,j<k→okN l j) (hk:okN l k):∀ j,j<k+1→okN l j:=fun j hj=>by
 by_cases e:j=k
 ·subst e;exact hk
 ·exact h j (by omega)
theorem docsOk_iff {l:List Ndoc}:docsOk l=true ↔ (∀ n∈l,isKey n.key=true∧may n.doc=true)∧sortedK Ndoc.key l:=by
 constructor
 ·intro h
  simp only [docsOk,decide_eq_true_eq] at h
  constructor
  ·intro n hn
   obtain⟨i,hi,rfl⟩:=List.getElem_of_mem hn
   have:=(okN_iff (l:=l) (k:=i) (x:=l[i]) (by simp)).1 (h i hi)
   exact⟨this.1,this.2.1⟩
  ·refine List.pairwise_iff_getElem.2 fun i j hi hj hij=>?_
   have step:∀ n:Nat,∀ k,i+1+n=k→∀ hk:k<l.length,slt l[i].key l[k].key:=by
    intro n
    induction n with
    | zero =>
     intro k e hk
     subst e
     obtain⟨g,hg,hs⟩:=((okN_iff (x:=l[i+1]) (by simp)).1 (h (i+1) hk)).2.2 (by omega)
     rw[show i+1-1=i by omega,List.getElem?_eq_getElem hi] at hg
     cases hg;exact hs
    | succ n ih =>
     intro k e hk
     have h1:=ih (k-1) (by omega) (by omega)
     obtain⟨g,hg,hs⟩:=((okN_iff (x:=l[k]) (by simp)).1 (h k hk)).2.2 (by omega)
     rw[List.getElem?_eq_getElem (by omega)] at hg
     cases hg
     exact slt_trans h1 hs
   exact step (j-i-1) j (by omega) hj
 ·rintro ⟨h1,h2⟩
  refine docsOk_good fun i hi=>(okN_iff (x:=l[i]) (by simp)).2 ⟨(h1 _ (List.getElem_mem hi)).1,(h1 _ (List.getElem_mem hi)).2,fun h0=>⟨l[i-1],by simp,?_⟩⟩
  exact List.pairwise_iff_getElem.1 h2 (i-1) i (by omega) hi (by omega)
theorem mayD_iff {l : List Ndoc} : mayD l = true ↔ l.length ≤ 24 ∧ (∀ n ∈ l, isKey n.key = true ∧ may n.doc = true) ∧ sortedK Ndoc.key l := by
  rw [mayD, Bool.and_eq_true, decide_eq_true_eq, docsOk_iff]
/-! what is asked -/
def ans0:Answer:=⟨0,false,[],[],[],0,0,[]⟩
def refA (e:Int):Answer:=⟨e,false,[],[],[],0,0,[]⟩
noncomputable def docAt (l:List Ndoc) (p:ByteArray):Doc:=match l[posK Ndoc.key l p]? with
 | some n=>n.doc
 | none=>[]
noncomputable def standA (l:List Ndoc) (p:ByteArray):Answer:=if getK Ndoc.key l p=true then⟨0,true,docAt l p,[],[],0,0,[]⟩ else ans0
noncomputable def lightD (d:Doc):Bool:=may d && decide ((putC (docC d)).length≤512)
noncomputable def foldD (l:List Ndoc) (c:Change):List Ndoc :=
 if c.has=true then(if getK Ndoc.key l c.key=true then l.set (posK Ndoc.key l c.key) ⟨c.key,c.doc⟩ else insK l (posK Ndoc.key l c.key) ⟨c.key,c.doc⟩)
 else if getK Ndoc.key l c.key=true then l.eraseIdx (posK Ndoc.key l c.key) else l
open Classical in
noncomputable def casBad (l : List Ndoc) (o : Opn) : Bool := decide (getK Ndoc.key l o.key ≠ o.has ∨ (o.has = true ∧ docAt l o.key ≠ o.want))
noncomputable def writeA (l:List Ndoc) (o:Opn):Answer :=
 if isKey o.key=false then refA 1
 else if o.kind=2 then(if getK Ndoc.key l o.key=true then ans0 else refA 4)
 else if may o.doc=false∨(o.kind=3∧o.has=true∧may o.want=false) then refA 1
 else if o.kind=3∧casBad l o=true then { standA l o.key with code:=7 }
 else if lightD o.doc=false then refA 3
 else if getK Ndoc.key l o.key=false∧l.length=24 then refA 2
 else ans0
def writeC (o:Opn):Change:=if o.kind=2 then⟨0,o.key,false,[]⟩ else⟨0,o.key,true,o.doc⟩
def writesB (o:Opn):Bool:=decide (o.kind=1∨o.kind=2∨o.kind=3)
noncomputable def runB (first:List Ndoc) (total:Int):List Opn→List Ndoc→List Change→List Ndoc×Answer×List Change
 | [],now,out=>(now,⟨0,false,[],[],[],total+out.length,0,[]⟩,out)
 | o::l,now,out=>if (writeA now o).code≠0 then(first,writeA now o,[])
  else runB first total l (foldD now { writeC o with pos:=total+out.length+1 }) (out++[{ writeC o with pos:=total+out.length+1 }])
def notWrites (o:Opn):Bool:=!writesB o
noncomputable def batchR (l:List Ndoc) (ops:List Opn) (total:Int):List Ndoc×Answer×List Change :=
 if ops.length<1∨4<ops.length∨ops.any notWrites=true then(l,refA 1,[]) else runB l total ops l []
open Classical in
noncomputable def inScan (o:Opn) (n:Ndoc):Bool:=decide (¬ slt n.key o.key∧(o.to=ByteArray.empty∨slt n.key o.to))
noncomputable def scanA (l:List Ndoc) (o:Opn):Answer :=
 if 64<o.key.size∨64<o.to.size∨o.most<1∨24<o.most then refA 1
 else⟨0,false,[],(l.filter (inScan o)).take o.most.toNat,[],0,0,[]⟩
noncomputable def applyR (l:List Ndoc) (o:Opn) (total:Int):List Ndoc×Answer×List Change :=
 if writesB o=true then batchR l [o] total
 else if o.kind=6 then batchR l o.list total
 else if o.kind=5 then(l,scanA l o,[])
 else if o.kind=4∧isKey o.key=true then(l,standA l o.key,[])
 else(l,refA 1,[])
theorem nms_set (O:Opq) {l:List Ndoc} {k:Nat} {x:Ndoc} (hx:l[k]?=some x):(O.o (Nms.enc O) l).set k (Ndoc.enc O x)=O.o (Nms.enc O) l:=by
 obtain⟨hk,rfl⟩:=List.getElem?_eq_some_iff.1 hx
 simp only [O.h]
 rw[Nms.enc,← List.map_set,List.set_getElem_self]
open Go Go.Proofs.Tryz
set_option maxRecDepth 100000
theorem Nms.enc_len (O:Opq) (l:List Ndoc):(Nms.enc O l).length=l.length:=by rw[Nms.enc,List.length_map]
theorem cloneN_fn (O:Opq) (d:List Ndoc) (hd:d.length≤1099511627):Fn prog 124 [.sl true 0 false 2 (O.o (Nms.enc O) d)] [] [.ref 0] [.arr 0 none 2 (O.o (Nms.enc O) d)]:=by
 have hlen:=Nms.len O d
 refine .inl (Fn.nilOr (pre:=[]) (post:=[]) (fun h0=>?_) ?_)
 ·refine goB (fn:=Proofs.Tryz.f124) (n:=7) (rv:=[ResultVar.tmp 2]) rfl (by decide) rfl (by decide +kernel) rfl rfl (by simp) fun F L C=>?_
  cbv
  (repeat' first|(refine Na ?_ fun _ _=>?_;(focus lia);cbv)|(refine RetThen.mk [(0,.nil 2)] [] ?_;cbv)|(refine Nl fun _ _ hq=>?_;(try simp only [lenS] at hq);cbv)|(refine Nm fun _ _=>?_;cbv)|(refine Br.t ?_ ?_;(focus first|assumption|lia);cbv)|(refine Br.f ?_ ?_;(focus first|assumption|lia);cbv)|(refine Br.mk (fun _=>?_) (fun _=>?_)<;>cbv)|(refine Need.mk ?_ ?_;rotate_left;cbv)|(refine R0 ?_;cbv))
  all_goals exact⟨h0,trivial⟩
 ·refine goB (fn:=Proofs.Tryz.f124) (n:=7) (rv:=[ResultVar.tmp 2]) rfl (by decide) rfl (by decide +kernel) rfl rfl (by simp) fun F L C=>?_
  cbv
  (repeat' first|(refine Na ?_ fun _ _=>?_;(focus lia);cbv)|(refine RetThen.mk [(0,.loc 576)] [] ?_;cbv)|(refine Nl fun _ _ hq=>?_;(try simp only [lenS] at hq);cbv)|(refine Nm fun _ _=>?_;cbv)|(refine Br.t ?_ ?_;(focus first|assumption|lia);cbv)|(refine Br.f ?_ ?_;(focus first|assumption|lia);cbv)|(refine Br.mk (fun _=>?_) (fun _=>?_)<;>cbv)|(refine Need.mk ?_ ?_;rotate_left;cbv)|(refine R0 ?_;cbv))
  ·rename_i r hr
   subst hr
   exact⟨WkR.of_eq rfl,trivial⟩
  ·have:([]:List (List PV)).length=0:=rfl
   lia
theorem atN1_fn (O:Opq) (s:Ndoc) (p:ByteArray):Fn prog 181 [.agg (s.enc O),.str p] [] [.int .i64 (O.o (cmpK Ndoc.key) s p)] []:=by
 refine go (fn:=Proofs.Tryz.f181) (n:=7) (rv:=[ResultVar.tmp 4]) rfl (by decide) rfl (by decide +kernel) rfl rfl (by simp) fun F L C=>?_
 cbv
 (repeat' first|(refine Na ?_ fun _ _=>?_;(focus lia);cbv)|(refine CallThen.mk _ _ (C.fn (cmp_fn O _ _)) ?_;cbv)|(refine Nl fun _ _ hq=>?_;(try simp only [lenS] at hq);cbv)|(refine Nm fun _ _=>?_;cbv)|(refine Br.t ?_ ?_;(focus first|assumption|lia);cbv)|(refine Br.f ?_ ?_;(focus first|assumption|lia);cbv)|(refine Br.mk (fun _=>?_) (fun _=>?_)<;>cbv)|(refine Need.mk ?_ ?_;rotate_left;cbv)|(refine R0 ?_;cbv))
 all_goals exact⟨by simp only [O.h];rfl,trivial⟩
set_option maxHeartbeats 2000000 in
theorem bsearchN_fn (O:Opq) (bo:Bool) (d:List Ndoc) (p:ByteArray) (hd:d.length≤1099511627776) (hs:sortedK Ndoc.key d):Fn prog 180 [.sl bo 0 false 2 (O.o (Nms.enc O) d),.str p,.fn 181 [] []] [] [.int .i64 (O.o (posKZ Ndoc.key) d p),.bool (O.o (getK Ndoc.key) d p)] []:=by
 have hlen:=Nms.len O d
 obtain⟨N,hN⟩:∃ N:Nat,N=d.length:=⟨_,rfl⟩
 cases bo
 all_goals
  refine go (fn:=Proofs.Tryz.f180) (n:=46) (rv:=[ResultVar.tmp 6,ResultVar.tmp 7]) rfl (by decide) rfl (by decide +kernel) rfl rfl (by simp) fun F L C=>?_
  cbv
  (repeat' first|(refine Na ?_ fun _ _=>?_;(focus lia);cbv)|(refine Nl fun _ _ hq=>?_;(try simp only [lenS] at hq);cbv)|(refine Nm fun _ _=>?_;cbv)|(refine Br.t ?_ ?_;(focus first|assumption|lia);cbv)|(refine Br.f ?_ ?_;(focus first|assumption|lia);cbv)|(refine Br.mk (fun _=>?_) (fun _=>?_)<;>cbv)|(refine Need.mk ?_ ?_;rotate_left;cbv)|(refine R0 ?_;cbv))
  refine LoopThen.mk (C.loopAt (ι:=Int×Int) [(9,11),(15,34)] (fun x=>[(9,.int .i64 x.1),(10,.int .i64 x.2)]) (fun _=>[])
   (fun x=>0≤x.1∧x.1≤x.2∧x.2≤d.length∧(∀ (j:Nat) y,j<x.1→d[j]?=some y→slt y.key p)∧(∀ (j:Nat) y,x.2≤j→d[j]?=some y→¬ slt y.key p)) (fun x=>(x.2-x.1).toNat) (by decide +kernel) (Start.mk (0,(N:Int)) [] [] (by refine⟨by simp,by simp,by simp [hN],fun j y h=>by simp at h;omega,fun j y h1 h2=>?_⟩;have:=(List.getElem?_eq_some_iff.1 h2).1;simp at h1;omega) (by cbv;(repeat' apply And.intro)<;>first|exact True.intro|exact WkR.refl _|rfl|lia)) ?_)
  rintro ⟨i,j⟩ g
  cbv
  obtain⟨h1,h2,h3,h4,h5⟩:=g
  simp only at h1 h2 h3 h4 h5
  (repeat' first|(refine Na ?_ fun _ _=>?_;(focus lia);cbv)|(refine Named.u64 ?_ fun _ _=>?_;(focus lia);cbv)|(refine Named.half fun _ _=>?_;cbv)|(refine Ex.map O (Ndoc.enc O) rfl ?_ fun x hx=>?_;rotate_left;obtain⟨q,k'⟩:=x;cbv)|(refine CallThen.mk _ _ (C.fn (atN1_fn O ⟨_,_⟩ _)) ?_;cbv)|(apply Back.of (i:=(_,_)) [] [];(focus(cbv;(repeat' apply And.intro)<;>first|exact True.intro|exact WkR.refl _|rfl)))|(refine Nl fun _ _ hq=>?_;(try simp only [lenS] at hq);cbv)|(refine Nm fun _ _=>?_;cbv)|(refine Br.t ?_ ?_;(focus first|assumption|lia);cbv)|(refine Br.f ?_ ?_;(focus first|assumption|lia);cbv)|(refine Br.mk (fun _=>?_) (fun _=>?_)<;>cbv)|(refine Need.mk ?_ ?_;rotate_left;cbv)|(refine R0 ?_;cbv))
  all_goals(try subst_vars)
  all_goals simp only [O.h,cmpK_lt,cmpK_eq] at *
  all_goals(repeat' apply And.intro)
  all_goals first
   | exact True.intro
   | lia
   | assumption
   | (refine bsK_lo hs ?_ (by assumption) (by assumption);lia)
   | (refine bsK_hi hs ?_ (by assumption) (by assumption);lia)
   | exact posKZ_at h1 (by lia) h4 (fun k y hk=>h5 k y (by lia))
   | exact(getK_at h1 (by assumption) hs h4 (fun k y hk=>h5 k y (by lia))).2 (by assumption)
   | (cases hb:getK Ndoc.key d p with
     | false=>rfl
     | true=>exact absurd ((getK_at h1 (by assumption) hs h4 (fun k y hk=>h5 k y (by lia))).1 hb) (by assumption))
   | exact getK_end (by lia) h4
   | trace_state
theorem atN_fn (O:Opq) (bo:Bool) (d:List Ndoc) (p:ByteArray) (hd:d.length≤1099511627776) (hs:sortedK Ndoc.key d):Fn prog 148 [.sl bo 0 false 2 (O.o (Nms.enc O) d),.str p] [] [.int .i64 (O.o (posKZ Ndoc.key) d p),.bool (O.o (getK Ndoc.key) d p)] []:=by
 cases bo
 all_goals
  refine go (fn:=Proofs.Tryz.f148) (n:=9) (rv:=[ResultVar.tmp 4,ResultVar.tmp 5]) rfl (by decide) rfl (by decide +kernel) rfl rfl (by simp) fun F L C=>?_
  cbv
  (repeat' first|(refine Na ?_ fun _ _=>?_;(focus lia);cbv)|(refine CallThen.mk _ _ (C.fn (bsearchN_fn O _ _ _ hd hs)) ?_;cbv)|(refine Nl fun _ _ hq=>?_;(try simp only [lenS] at hq);cbv)|(refine Nm fun _ _=>?_;cbv)|(refine Br.t ?_ ?_;(focus first|assumption|lia);cbv)|(refine Br.f ?_ ?_;(focus first|assumption|lia);cbv)|(refine Br.mk (fun _=>?_) (fun _=>?_)<;>cbv)|(refine Need.mk ?_ ?_;rotate_left;cbv)|(refine R0 ?_;cbv))
  all_goals exact⟨rfl,rfl,trivial⟩
set_option maxHeartbeats 2000000 in
theorem insertN_fn (O:Opq) (d:List Ndoc) (i:Int) (f:Ndoc) (v:List (List PV)) (hv:v=[f.enc O]) (hd:d.length≤1099511627) (h0:0≤i) (h1:i≤d.length):Fn prog 178 [.ref 0,.int .i64 i,.ref 1] [.arr 0 none 2 (O.o (Nms.enc O) d),.arr 2 none 2 v]
  [.sl false 0 false 2 (O.o (Nms.enc O) (O.o insKZ d i f))] [.dead,.dead]:=by
 have hlen:=Nms.len O d
 have hvl:v.length=1:=by rw[hv];rfl
 have hvn:v≠[]:=by rw[hv];simp
 have enc_ins:(Nms.enc O) (insKZ d i f)=((Nms.enc O) d).take i.toNat++[f.enc O]++((Nms.enc O) d).drop i.toNat:=map_insKZ (Ndoc.enc O) d i f
 refine .inl (Fn.capAny fun c hc=>?_)
 refine goB (fn:=Proofs.Tryz.f178) (n:=92) (rv:=[ResultVar.tmp 6]) rfl (by decide) rfl (by decide +kernel) rfl rfl (by simp) fun F L C=>?_
 cbv
 (repeat' first|(refine Na ?_ fun _ _=>?_;(focus lia);cbv)|(refine RetThen.mk [] [1728,2688,3968] ?_;cbv)|(refine CallThen.mk _ _ (C.fn (overlaps_fn (fn:=Proofs.Tryz.f236) (tS:=41) (tR:=4) (e:=153) (sz:=2) rfl (by decide) rfl (by kernel_rfl) (by kernel_rfl) rfl (fun w=>rfl) (by decide) (by decide) hvn (by lia))) ?_;cbv)|(refine Nl fun _ _ hq=>?_;(try simp only [lenS] at hq);cbv)|(refine Nm fun _ _=>?_;cbv)|(refine Br.t ?_ ?_;(focus first|assumption|lia);cbv)|(refine Br.f ?_ ?_;(focus first|assumption|lia);cbv)|(refine Br.mk (fun _=>?_) (fun _=>?_)<;>cbv)|(refine Need.mk ?_ ?_;rotate_left;cbv)|(refine R0 ?_;cbv))
 all_goals try first
  | lia
  | (dsimp only;lia)
 ·rename_i B eB hB F eF
  rw[eF,eB]
  refine⟨WkR.of_eq ?_,trivial⟩
  simp only [O.h] at *
  rw[enc_ins,show i.toNat=d.length by lia,List.take_of_length_le (by lia),List.drop_of_length_le (by lia),List.append_nil,hv]
 ·rename_i n1 e1 n2 e2 m em L eL hne s1 es1 cc ecc hlt t1 et1 s2 es2 s3 es3 Z eZ hZ A eA hA B eB hB i2 ei2 k2 ek2 CC eC hC w1 ew1 s4 es4 i3 ei3 k3 ek3 i4 ei4 k4 ek4 Y eY hY D eD hD w2 ew2 F eF
  rw[eF]
  refine⟨WkR.of_eq ?_,trivial⟩
  have qm:m=1:=by lia
  have qL:L=d.length:=by lia
  have qi:i.toNat<d.length:=by lia
  have q1:t1=i.toNat:=by lia
  have q2:i2=i.toNat:=by lia
  have qz:Z.length=d.length+1-i.toNat:=by clear hA hB hC hY hD hq;lia
  have qA:A.length=i.toNat:=by clear hB hC hY hD hq;lia
  have qB:B.length=d.length+1:=by clear hC hY hD hq;lia
  clear hA hB hC hY hD hq
  have q3:k2=d.length+1-i.toNat:=by lia
  have q4:i2+min v.length k2=i.toNat+1:=by lia
  have q5:i3=i.toNat+1:=by lia
  have qC:CC.length=d.length+1:=by rw[eC,List.length_append,List.length_append,List.length_take,List.length_take,List.length_drop];lia
  have q6:k3=d.length-i.toNat:=by lia
  have q7:i4=i.toNat:=by lia
  have q8:k4=d.length-i.toNat:=by lia
  have qY:Y.length=d.length-i.toNat:=by rw[eY,List.length_take,List.length_drop];lia
  have q9:i3+min Y.length k3=d.length+1:=by lia
  rw[q4,q2,q3] at eC
  rw[q9,q5,q6] at eD
  rw[q7,q8] at eY
  rw[q1] at eA
  simp only [O.h,List.drop_zero] at *
  rw[enc_ins,← hv]
  symm
  refine ins2 (Nms.enc_len O d) qi hvl qz (r1:=B) (r2:=CC) (by rw[eB,eA]) eC ?_
  rw[eD,eY,List.take_take,Nat.min_self]
 ·rename_i n1 e1 n2 e2 m em L eL hne s1 es1 cc ecc hge s2 es2 B eB hB s3 es3 i2 ei2 k2 ek2 s4 es4 i3 ei3 k3 ek3 i4 ei4 k4 ek4 Y eY hY CC eC hC w1 ew1 i5 ei5 k5 ek5 D eD hD w2 ew2 F eF
  rw[eF]
  refine⟨WkR.of_eq ?_,trivial⟩
  have qm:m=1:=by lia
  have qL:L=d.length:=by lia
  have qi:i.toNat<d.length:=by lia
  have qB:B.length=d.length+1:=by clear hC hY hD hq;lia
  clear hC hY hD hq
  have q5:i3=i.toNat+1:=by lia
  have q6:k3=d.length-i.toNat:=by lia
  have q7:i4=i.toNat:=by lia
  have q8:k4=d.length+1-i.toNat:=by lia
  have qY:Y.length=d.length+1-i.toNat:=by rw[eY,List.length_take,List.length_drop];lia
  have q9:i3+min Y.length k3=d.length+1:=by lia
  have q2:i5=i.toNat:=by lia
  have qC:CC.length=d.length+1:=by rw[eC,List.length_append,List.length_append,List.length_take,List.length_take,List.length_drop];lia
  have q3:k5=d.length+1-i.toNat:=by lia
  have q4:i5+min v.length k5=i.toNat+1:=by lia
  have qz:s2.toNat-d.length=1:=by lia
  rw[q9,q5,q6] at eC
  rw[q4,q2,q3] at eD
  rw[q7,q8] at eY
  rw[hlen,qz] at eB
  simp only [O.h] at *
  rw[enc_ins,← hv]
  symm
  exact ins3 (Nms.enc_len O d) qi hvl (by simp) eB (by rw[eC,eY]) eD
set_option maxHeartbeats 2000000 in
theorem deleteN_fn (O:Opq) (d:List Ndoc) (i j:Int) (hj:j=i+1) (hd:d.length≤1099511627) (h0:0≤i) (h1:i<d.length):Fn prog 179 [.ref 0,.int .i64 i,.int .i64 j] [.arr 0 none 2 (O.o (Nms.enc O) d)]
  [.sl false 0 false 2 (O.o (Nms.enc O) (O.o List.eraseIdx d i.toNat))] [.dead]:=by
 have hlen:=Nms.len O d
 refine .inl (Fn.capAny fun c hc=>?_)
 refine goB (fn:=Proofs.Tryz.f179) (n:=30) (rv:=[ResultVar.tmp 6]) rfl (by decide) rfl (by decide +kernel) rfl rfl (by simp) fun F L C=>?_
 cbv
 (repeat' first|(refine Na ?_ fun _ _=>?_;(focus lia);cbv)|(refine RetThen.mk [] [1792] ?_;cbv)|(refine Nl fun _ _ hq=>?_;(try simp only [lenS] at hq);cbv)|(refine Nm fun _ _=>?_;cbv)|(refine Br.t ?_ ?_;(focus first|assumption|lia);cbv)|(refine Br.f ?_ ?_;(focus first|assumption|lia);cbv)|(refine Br.mk (fun _=>?_) (fun _=>?_)<;>cbv)|(refine Need.mk ?_ ?_;rotate_left;cbv)|(refine R0 ?_;cbv))
 all_goals try first
  | lia
  | (dsimp only;lia)
 all_goals
  refine⟨.of_eq ?_,trivial⟩
  subst_vars
  have e:∀ n,(Nms.enc O) (d.eraseIdx n)=((Nms.enc O) d).take n++((Nms.enc O) d).drop (n+1):=fun n=>by
   simp only [Nms.enc,List.eraseIdx_eq_take_drop_succ,List.map_append,List.map_take,List.map_drop]
  simp only [O.h] at hlen ⊢
  refine(e i.toNat).trans ?_
  rw[show(i+1).toNat=i.toNat+1 by omega,show i.toNat-Int.toNat 0=i.toNat by simp,List.take_of_length_le (l:=List.drop (i.toNat+1) ((Nms.enc O) d)) (by rw[List.length_drop];exact Nat.le_refl _)]
theorem cloneW_fn (O:Opq) (d:Doc) (hd:d.length≤1099511627):Fn prog 36 [.sl false 0 false 6 (O.o Doc.enc d)] [] [.sl false 0 false 6 (O.o Doc.enc d)] []:=by
 have hlen:(O.o Doc.enc d).length=d.length:=by rw[O.h,Doc.enc_len]
 refine .inl (Fn.nilOr (pre:=[]) (post:=[]) (fun h0=>?_) ?_)
 ·refine goB (fn:=Proofs.Tryz.f36) (n:=7) (rv:=[ResultVar.tmp 2]) rfl (by decide) rfl (by decide +kernel) rfl rfl (by simp) fun F L C=>?_
  cbv
  (repeat' first|(refine Na ?_ fun _ _=>?_;(focus lia);cbv)|(refine R0 ?_;cbv)|(refine Nl fun _ _ hq=>?_;(try simp only [lenS] at hq);cbv)|(refine Nm fun _ _=>?_;cbv)|(refine Br.t ?_ ?_;(focus first|assumption|lia);cbv)|(refine Br.f ?_ ?_;(focus first|assumption|lia);cbv)|(refine Br.mk (fun _=>?_) (fun _=>?_)<;>cbv)|(refine Need.mk ?_ ?_;rotate_left;cbv)|(refine R0 ?_;cbv))
  all_goals exact⟨h0,trivial⟩
 ·refine goB (fn:=Proofs.Tryz.f36) (n:=7) (rv:=[ResultVar.tmp 2]) rfl (by decide) rfl (by decide +kernel) rfl rfl (by simp) fun F L C=>?_
  cbv
  (repeat' first|(refine Na ?_ fun _ _=>?_;(focus lia);cbv)|(fail)|(refine RetThen.mk [] [576] ?_;cbv)|(refine Nl fun _ _ hq=>?_;(try simp only [lenS] at hq);cbv)|(refine Nm fun _ _=>?_;cbv)|(refine Br.t ?_ ?_;(focus first|assumption|lia);cbv)|(refine Br.f ?_ ?_;(focus first|assumption|lia);cbv)|(refine Br.mk (fun _=>?_) (fun _=>?_)<;>cbv)|(refine Need.mk ?_ ?_;rotate_left;cbv)|(refine R0 ?_;cbv))
  ·refine⟨WkR.of_eq ?_,trivial⟩
   clear hlen
   subst_vars
   rfl
  ·have:([]:List (List PV)).length=0:=rfl
   lia
theorem cloneC_fn (O:Opq) (d:List Change) (hd:d.length≤1099511627):Fn prog 35 [.sl true 0 false 4 (O.o (Chs.enc O) d)] [] [.ref 0] [.arr 0 none 4 (O.o (Chs.enc O) d)]:=by
 have hlen:=Chs.len O d
 refine .inl (Fn.nilOr (pre:=[]) (post:=[]) (fun h0=>?_) ?_)
 ·refine goB (fn:=Proofs.Tryz.f35) (n:=7) (rv:=[ResultVar.tmp 2]) rfl (by decide) rfl (by decide +kernel) rfl rfl (by simp) fun F L C=>?_
  cbv
  (repeat' first|(refine Na ?_ fun _ _=>?_;(focus lia);cbv)|(refine RetThen.mk [(0,.nil 4)] [] ?_;cbv)|(refine Nl fun _ _ hq=>?_;(try simp only [lenS] at hq);cbv)|(refine Nm fun _ _=>?_;cbv)|(refine Br.t ?_ ?_;(focus first|assumption|lia);cbv)|(refine Br.f ?_ ?_;(focus first|assumption|lia);cbv)|(refine Br.mk (fun _=>?_) (fun _=>?_)<;>cbv)|(refine Need.mk ?_ ?_;rotate_left;cbv)|(refine R0 ?_;cbv))
  all_goals exact⟨h0,trivial⟩
 ·refine goB (fn:=Proofs.Tryz.f35) (n:=7) (rv:=[ResultVar.tmp 2]) rfl (by decide) rfl (by decide +kernel) rfl rfl (by simp) fun F L C=>?_
  cbv
  (repeat' first|(refine Na ?_ fun _ _=>?_;(focus lia);cbv)|(refine RetThen.mk [(0,.loc 576)] [] ?_;cbv)|(refine Nl fun _ _ hq=>?_;(try simp only [lenS] at hq);cbv)|(refine Nm fun _ _=>?_;cbv)|(refine Br.t ?_ ?_;(focus first|assumption|lia);cbv)|(refine Br.f ?_ ?_;(focus first|assumption|lia);cbv)|(refine Br.mk (fun _=>?_) (fun _=>?_)<;>cbv)|(refine Need.mk ?_ ?_;rotate_left;cbv)|(refine R0 ?_;cbv))
  ·rename_i r hr
   subst hr
   exact⟨WkR.of_eq rfl,trivial⟩
  ·have:([]:List (List PV)).length=0:=rfl
   lia
theorem cloneS_fn (O:Opq) (d:List Sub) (hd:d.length≤1099511627):Fn prog 91 [.sl false 0 false 2 (O.o Subs.enc d)] [] [.ref 0] [.arr 0 none 2 (O.o Subs.enc d)]:=by
 have hlen:=Subs.len O d
 refine .inl (Fn.nilOr (pre:=[]) (post:=[]) (fun h0=>?_) ?_)
 ·refine goB (fn:=Proofs.Tryz.f91) (n:=7) (rv:=[ResultVar.tmp 2]) rfl (by decide) rfl (by decide +kernel) rfl rfl (by simp) fun F L C=>?_
  cbv
  (repeat' first|(refine Na ?_ fun _ _=>?_;(focus lia);cbv)|(refine RetThen.mk [(0,.nil 2)] [] ?_;cbv)|(refine Nl fun _ _ hq=>?_;(try simp only [lenS] at hq);cbv)|(refine Nm fun _ _=>?_;cbv)|(refine Br.t ?_ ?_;(focus first|assumption|lia);cbv)|(refine Br.f ?_ ?_;(focus first|assumption|lia);cbv)|(refine Br.mk (fun _=>?_) (fun _=>?_)<;>cbv)|(refine Need.mk ?_ ?_;rotate_left;cbv)|(refine R0 ?_;cbv))
  all_goals exact⟨h0,trivial⟩
 ·refine goB (fn:=Proofs.Tryz.f91) (n:=7) (rv:=[ResultVar.tmp 2]) rfl (by decide) rfl (by decide +kernel) rfl rfl (by simp) fun F L C=>?_
  cbv
  (repeat' first|(refine Na ?_ fun _ _=>?_;(focus lia);cbv)|(refine RetThen.mk [(0,.loc 576)] [] ?_;cbv)|(refine Nl fun _ _ hq=>?_;(try simp only [lenS] at hq);cbv)|(refine Nm fun _ _=>?_;cbv)|(refine Br.t ?_ ?_;(focus first|assumption|lia);cbv)|(refine Br.f ?_ ?_;(focus first|assumption|lia);cbv)|(refine Br.mk (fun _=>?_) (fun _=>?_)<;>cbv)|(refine Need.mk ?_ ?_;rotate_left;cbv)|(refine R0 ?_;cbv))
  ·rename_i r hr
   subst hr
   exact⟨WkR.of_eq rfl,trivial⟩
  ·have:([]:List (List PV)).length=0:=rfl
   lia
theorem chs_set (O:Opq) {l:List Change} {k:Nat} {x:Change} (hx:l[k]?=some x):(O.o (Chs.enc O) l).set k (Change.enc O x)=O.o (Chs.enc O) l:=by
 obtain⟨hk,rfl⟩:=List.getElem?_eq_some_iff.1 hx
 simp only [O.h]
 rw[Chs.enc,← List.map_set,List.set_getElem_self]
set_option maxHeartbeats 4000000 in
theorem changesB_fn (O:Opq) (l:List Change) (hl:l.length≤1099511627) (hd:∀ c∈l,c.doc.length≤1099511627):Fn prog 132 [.sl true 0 false 4 (O.o (Chs.enc O) l)] [] [.sl false 0 false 4 (O.o (Chs.enc O) l)] []:=by
 have hlen:=Chs.len O l
 obtain⟨N,hN⟩:∃ N:Nat,N=l.length:=⟨_,rfl⟩
 obtain⟨z,hz⟩:∃ z:Nat,z=0:=⟨_,rfl⟩
 refine go (fn:=Proofs.Tryz.f132) (n:=22) (rv:=[ResultVar.tmp 2]) rfl (by decide) rfl (by decide +kernel) rfl rfl (by simp) fun F L C=>?_
 cbv
 (repeat' first|(refine Na ?_ fun _ _=>?_;(focus lia);cbv)|(refine CallThen.mk _ _ (C.fn (cloneC_fn O l hl)) ?_;cbv)|(refine Nl fun _ _ hq=>?_;(try simp only [lenS] at hq);cbv)|(refine Nm fun _ _=>?_;cbv)|(refine Br.t ?_ ?_;(focus first|assumption|lia);cbv)|(refine Br.f ?_ ?_;(focus first|assumption|lia);cbv)|(refine Br.mk (fun _=>?_) (fun _=>?_)<;>cbv)|(refine Need.mk ?_ ?_;rotate_left;cbv)|(refine R0 ?_;cbv))
 refine LoopThen.mk (C.loopAt (ι:=Nat) [(3,4),(9,21)] (fun k=>[(9,.int .i64 k)]) (fun _=>[(512,.arr 0 none 4 (O.o (Chs.enc O) l))])
  (fun k=>k≤l.length) (fun k=>N-k) (by decide +kernel) (Start.mk z [] [] (by lia) (by cbv;(repeat' apply And.intro)<;>first|exact True.intro|exact WkR.refl _|rfl|lia)) ?_)
 intro k g
 cbv
 by_cases hk:k<l.length
 ·obtain⟨x,hx⟩:∃ x,l[k]?=some x:=⟨l[k],by simp [hk]⟩
  have hi:=hd x (List.mem_of_getElem? hx)
  have hse:=chs_set O hx
  clear hd
  obtain⟨p,key,has,doc⟩:=x
  (repeat' first|(refine Na ?_ fun _ _=>?_;(focus lia);cbv)|(refine Ex.known O (Change.enc O) rfl hx ?_ ?_;(focus lia);cbv)|(refine CallThen.mk _ _ (C.fn (cloneW_fn O doc hi)) ?_;cbv)|(refine Back.up [] [] ?_ ?_ fun _ _=>?_;rotate_left 2;cbv;refine And.intro ?_ ?_)|(refine Nl fun _ _ hq=>?_;(try simp only [lenS] at hq);cbv)|(refine Nm fun _ _=>?_;cbv)|(refine Br.t ?_ ?_;(focus first|assumption|lia);cbv)|(refine Br.f ?_ ?_;(focus first|assumption|lia);cbv)|(refine Br.mk (fun _=>?_) (fun _=>?_)<;>cbv)|(refine Need.mk ?_ ?_;rotate_left;cbv)|(refine R0 ?_;cbv))
  all_goals(repeat' apply And.intro)
  all_goals try first
   | exact True.intro
   | exact WkR.refl _
   | (clear hse hx;lia)
  ·rename_i i1 ei1 R eR n1 en1 n2 en2
   exact WkR.of_eq (by rw[eR,show i1=k from ei1];exact hse.symm)
 ·(repeat' first|(refine Na ?_ fun _ _=>?_;(focus lia);cbv)|(refine RetThen.mk [] [512] ?_;cbv)|(refine Nl fun _ _ hq=>?_;(try simp only [lenS] at hq);cbv)|(refine Nm fun _ _=>?_;cbv)|(refine Br.t ?_ ?_;(focus first|assumption|lia);cbv)|(refine Br.f ?_ ?_;(focus first|assumption|lia);cbv)|(refine Br.mk (fun _=>?_) (fun _=>?_)<;>cbv)|(refine Need.mk ?_ ?_;rotate_left;cbv)|(refine R0 ?_;cbv))
  all_goals(repeat' apply And.intro)
  all_goals first
   | exact True.intro
   | exact WkR.refl _
   | (refine WkR.of_eq ?_;subst_vars;rfl)
   | lia
theorem changes_fn (O:Opq) (l:List Change) (hl:l.length≤1099511627) (hd:∀ c∈l,c.doc.length≤1099511627):Fn prog 132 [.sl false 0 false 4 (O.o (Chs.enc O) l)] [] [.sl false 0 false 4 (O.o (Chs.enc O) l)] [] :=
 (changesB_fn O l hl hd).wkA (.cons (.lend rfl) .nil)
theorem own_fn (O:Opq) (f:Feed) (hl:f.changes.length≤1099511627) (hs:f.subs.length≤1099511627) (hd:∀ c∈f.changes,c.doc.length≤1099511627):Fn prog 133 [.agg (f.enc O)] [] [.agg [.int .i64 f.base,.int .i64 f.total,.sl false 0 false 4 (O.o (Chs.enc O) f.changes),.ref 0]] [.arr 0 none 2 (O.o Subs.enc f.subs)]:=by
 have hl1:=Chs.len O f.changes
 have hl2:=Subs.len O f.subs
 refine go (fn:=Proofs.Tryz.f133) (n:=11) (rv:=[ResultVar.cell 2 44]) rfl (by decide) rfl (by decide +kernel) rfl rfl (by simp) fun F L C=>?_
 cbv
 (repeat' first|(refine Na ?_ fun _ _=>?_;(focus lia);cbv)|(refine CallThen.mk _ _ (C.fn (changes_fn O f.changes hl hd)) ?_;cbv)|(refine CallThen.mk _ _ (C.fn (cloneS_fn O f.subs hs)) ?_;cbv)|(refine RetThen.mk [(0,.loc 640)] [] ?_;cbv)|(refine Nl fun _ _ hq=>?_;(try simp only [lenS] at hq);cbv)|(refine Nm fun _ _=>?_;cbv)|(refine Br.t ?_ ?_;(focus first|assumption|lia);cbv)|(refine Br.f ?_ ?_;(focus first|assumption|lia);cbv)|(refine Br.mk (fun _=>?_) (fun _=>?_)<;>cbv)|(refine Need.mk ?_ ?_;rotate_left;cbv)|(refine R0 ?_;cbv))
 all_goals exact⟨.refl _,.refl _,trivial⟩
theorem ownW_fn (O:Opq) (f:Feed) (hl:f.changes.length≤1099511627) (hs:f.subs.length≤1099511627) (hd:∀ c∈f.changes,c.doc.length≤1099511627):Fn prog 133 [.agg (f.enc O)] [] [.agg (f.enc O)] []:=by
 have hl1:=Chs.len O f.changes
 have hl2:=Subs.len O f.subs
 refine go (fn:=Proofs.Tryz.f133) (n:=11) (rv:=[ResultVar.cell 2 44]) rfl (by decide) rfl (by decide +kernel) rfl rfl (by simp) fun F L C=>?_
 cbv
 (repeat' first|(refine Na ?_ fun _ _=>?_;(focus lia);cbv)|(refine CallThen.mk _ _ (C.fn (changes_fn O f.changes hl hd)) ?_;cbv)|(refine CallThen.mk _ _ (C.fn (cloneS_fn O f.subs hs)) ?_;cbv)|(refine RetThen.mk [] [640] ?_;cbv)|(refine Nl fun _ _ hq=>?_;(try simp only [lenS] at hq);cbv)|(refine Nm fun _ _=>?_;cbv)|(refine Br.t ?_ ?_;(focus first|assumption|lia);cbv)|(refine Br.f ?_ ?_;(focus first|assumption|lia);cbv)|(refine Br.mk (fun _=>?_) (fun _=>?_)<;>cbv)|(refine Need.mk ?_ ?_;rotate_left;cbv)|(refine R0 ?_;cbv))
 all_goals
  refine⟨.refl _,Named.mk fun _ e=>⟨.of_eq e.symm,by cbv⟩⟩
theorem clipC_fn (O:Opq) (l:List Change) (hl:l.length≤1099511627):Fn prog 136 [.sl false 0 false 4 (O.o (Chs.enc O) l)] [] [.sl false 0 true 4 (O.o (Chs.enc O) l)] []:=by
 have hlen:=Chs.len O l
 refine go (fn:=Proofs.Tryz.f136) (n:=8) (rv:=[ResultVar.tmp 2]) rfl (by decide) rfl (by decide +kernel) rfl rfl (by simp) fun F L C=>?_
 cbv
 (repeat' first|(refine Na ?_ fun _ _=>?_;(focus lia);cbv)|(refine Nl fun _ _ hq=>?_;(try simp only [lenS] at hq);cbv)|(refine Nm fun _ _=>?_;cbv)|(refine Br.t ?_ ?_;(focus first|assumption|lia);cbv)|(refine Br.f ?_ ?_;(focus first|assumption|lia);cbv)|(refine Br.mk (fun _=>?_) (fun _=>?_)<;>cbv)|(refine Need.mk ?_ ?_;rotate_left;cbv)|(refine R0 ?_;cbv))
 all_goals first
  | lia
  | skip
 ·rename_i n en m em R eR
  refine⟨WkR.of_eq ?_,trivial⟩
  rw[eR,show n.toNat-Int.toNat 0=(O.o (Chs.enc O) l).length by lia]
  exact(List.take_of_length_le (Nat.le_refl _)).symm
end Go.Sym
