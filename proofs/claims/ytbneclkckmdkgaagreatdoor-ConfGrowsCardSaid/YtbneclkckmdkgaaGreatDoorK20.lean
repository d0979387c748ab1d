/- Configurations: which may be, what a command makes of one. -/
import Derived.Test.YtbneclkckmdkgaaGreatDoorK16
set_option linter.all false
set_option linter.unusedVariables false
set_option linter.unusedSimpArgs false
namespace Go.Sym
open Go
structure Chn where
 id:Int
 dfn:ByteArray
 epoch:Int
 mem:List Int
 joiner:Int
structure Cnf where
 rev:Int
 ever:Int
 chains:List Chn
structure CmdK where
 kind:Int
 chain:Int
 epoch:Int
 node:Int
 dfn:ByteArray
 nodes:List Int
def NumsE (l:List Int):List (List PV):=l.map fun x=>[.int .i64 x]
theorem NumsE.len (O:Opq) (l:List Int):(O.o NumsE l).length=l.length:=by rw[O.h,NumsE,List.length_map]
def Chn.enc (O:Opq) (c:Chn):List PV:=[.int .i64 c.id,.str c.dfn,.int .i64 c.epoch,.sl false 0 false 1 (O.o NumsE c.mem),.int .i64 c.joiner]
def Chns.enc (O:Opq) (l:List Chn):List (List PV):=l.map (Chn.enc O)
theorem Chns.len (O:Opq) (l:List Chn):(O.o (Chns.enc O) l).length=l.length:=by rw[O.h,Chns.enc,List.length_map]
def Cnf.enc (O:Opq) (c:Cnf):List PV:=[.int .i64 c.rev,.int .i64 c.ever,.sl false 0 false 5 (O.o (Chns.enc O) c.chains)]
def CmdK.enc (O:Opq) (k:CmdK):List PV:=[.int .i64 k.kind,.int .i64 k.chain,.int .i64 k.epoch,.int .i64 k.node,.str k.dfn,.sl false 0 false 1 (O.o NumsE k.nodes)]
def maxCount:Int:=2147483647
def countB (n least:Int):Prop:=least≤n∧n≤maxCount
def defOk (id:Int) (s:ByteArray):Prop:=if id=1 then s=ByteArray.empty else allE s.data.toList=0
def nodesOk (l:List Int):Prop:=1≤l.length∧l.length≤4∧(∀ x∈l,1≤x∧x≤99)∧l.Nodup
def joinOk (x:Chn):Prop:=x.joiner=0∨(1≤x.joiner∧x.joiner≤99∧x.joiner ∉ x.mem)
def chnOk (ever:Int) (x:Chn):Prop:=1≤x.id∧x.id≤ever∧nodesOk x.mem∧countB x.epoch 1∧defOk x.id x.dfn∧joinOk x
def mayC (c:Cnf):Prop:=countB c.rev 0∧countB c.ever 0∧c.chains.length≤4∧(∀ x∈c.chains,chnOk c.ever x)∧c.chains.Pairwise (fun x y=>x.id<y.id)
def doneC (y:Chn):Chn×Int:=if y.epoch=maxCount then(y,2) else({ y with epoch:=y.epoch+1 },0)
def turnC (x:Chn) (k:CmdK):Chn×Int :=
 if k.epoch≠x.epoch then(x,10)
 else if k.kind=1∧x.joiner≠0∧k.node=x.joiner then doneC { x with joiner:=0 }
 else if k.kind=1∧(k.node ∉ x.mem∨x.mem.length=1) then(x,1)
 else if k.kind=1 then doneC { x with mem:=x.mem.eraseIdx (x.mem.idxOf k.node) }
 else if k.kind=2∧(k.node<1∨99<k.node∨k.node∈x.mem) then(x,1)
 else if k.kind=2∧x.joiner≠0 then(x,11)
 else if k.kind=2∧x.mem.length=4 then(x,2)
 else if k.kind=2 then doneC { x with joiner:=k.node }
 else if x.joiner=0 then(x,1)
 else if x.mem.length=4 then(x,2)
 else doneC { x with mem:=x.mem++[x.joiner],joiner:=0 }
def atC (c:Cnf) (id:Int):Option Nat:=if (c.chains.findIdx fun x=>x.id=id)<c.chains.length then some (c.chains.findIdx fun x=>x.id=id) else none
def bumpC (c d:Cnf):Cnf×Int:=if d.rev=maxCount then(c,2) else({ d with rev:=d.rev+1 },0)
open Classical in
noncomputable def applyC (c:Cnf) (k:CmdK):Cnf×Int :=
 if ¬ mayC c then(⟨0,0,[]⟩,1)
 else if k.kind=6 then(c,0)
 else if k.kind=1∨k.kind=2∨k.kind=3 then match atC c k.chain with
  | none=>(c,4)
  | some i=>match c.chains[i]? with
   | none=>(c,4)
   | some x=>if (turnC x k).2≠0 then(c,(turnC x k).2) else bumpC c { c with chains:=c.chains.set i (turnC x k).1 }
 else if k.kind=4 then
  if ¬ (nodesOk k.nodes∧defOk (c.ever+1) k.dfn) then(c,1)
  else if ∃ x∈c.chains,x.dfn=k.dfn then(c,11)
  else if c.chains.length=4∨c.ever=maxCount then(c,2)
  else bumpC c { c with ever:=c.ever+1,chains:=c.chains++[⟨c.ever+1,k.dfn,1,k.nodes,0⟩] }
 else if k.kind=5 then match atC c k.chain with
  | none=>(c,4)
  | some i=>if k.chain=1 then(c,1) else bumpC c { c with chains:=c.chains.eraseIdx i }
 else(c,1)
theorem atC_some {c:Cnf} {id:Int} {i:Nat} (h:atC c id=some i):∃ x,c.chains[i]?=some x∧x.id=id∧∀ (j:Nat) y,j<i→c.chains[j]?=some y→y.id≠id:=by
 unfold atC at h
 split at h
 ·rename_i hlt
  cases h
  refine⟨_,List.getElem?_eq_getElem hlt,?_,fun j y hj hy=>?_⟩
  ·have:=List.findIdx_getElem (w:=hlt)
   simpa using this
  ·have:=List.not_of_lt_findIdx hj
   have e:=(List.getElem?_eq_some_iff.1 hy).2
   rw[e] at this
   simpa using this
 ·cases h
theorem atC_none {c:Cnf} {id:Int} (h:atC c id=none):∀ x∈c.chains,x.id≠id:=by
 unfold atC at h
 split at h
 ·cases h
 ·rename_i hn
  intro x hx e
  exact hn (List.findIdx_lt_length_of_exists ⟨x,hx,by simpa using e⟩)
def grewC (was now:Chn):Prop :=
 now.id=was.id∧now.dfn=was.dfn∧now.epoch=was.epoch+1∧(now.mem=was.mem∨now.mem.length+1=was.mem.length∨now.mem=was.mem++[was.joiner])
inductive MidC (x:Chn) (k:CmdK):Chn→Prop
 | left (h1:k.kind=1) (h2:x.joiner≠0) (h3:k.node=x.joiner):MidC x k { x with joiner:=0 }
 | out (h1:k.kind=1) (h2:k.node∈x.mem) (h3:x.mem.length≠1):MidC x k { x with mem:=x.mem.eraseIdx (x.mem.idxOf k.node) }
 | join (h1:k.kind=2) (h2:1≤k.node∧k.node≤99) (h3:k.node ∉ x.mem) (h4:x.joiner=0) (h5:x.mem.length≠4):MidC x k { x with joiner:=k.node }
 | prom (h1:k.kind≠1∧k.kind≠2) (h2:x.joiner≠0) (h3:x.mem.length≠4):MidC x k { x with mem:=x.mem++[x.joiner],joiner:=0 }
theorem turnC_mid {x:Chn} {k:CmdK} (h:(turnC x k).2=0):∃ y,MidC x k y∧k.epoch=x.epoch∧y.epoch=x.epoch∧y.epoch≠maxCount∧(turnC x k).1={ y with epoch:=y.epoch+1 }:=by
 have done:∀ y:Chn,(doneC y).2=0→y.epoch≠maxCount∧(doneC y).1={ y with epoch:=y.epoch+1 }:=fun y h=>by
  unfold doneC at h ⊢
  by_cases e:y.epoch=maxCount
  ·rw[if_pos e] at h;cases h
  ·rw[if_neg e];exact⟨e,rfl⟩
 unfold turnC at h ⊢
 by_cases c1:k.epoch≠x.epoch
 ·rw[if_pos c1] at h;cases h
 rw[if_neg c1] at h ⊢
 have c1:k.epoch=x.epoch:=by simpa using c1
 by_cases c2:k.kind=1∧x.joiner≠0∧k.node=x.joiner
 ·rw[if_pos c2] at h ⊢
  obtain⟨d1,d2⟩:=done _ h
  exact⟨_,.left c2.1 c2.2.1 c2.2.2,c1,rfl,d1,d2⟩
 rw[if_neg c2] at h ⊢
 by_cases c3:k.kind=1∧(k.node ∉ x.mem∨x.mem.length=1)
 ·rw[if_pos c3] at h;cases h
 rw[if_neg c3] at h ⊢
 by_cases c4:k.kind=1
 ·rw[if_pos c4] at h ⊢
  obtain⟨d1,d2⟩:=done _ h
  have c3:=not_or.1 fun q=>c3 ⟨c4,q⟩
  exact⟨_,.out c4 (Classical.not_not.1 c3.1) c3.2,c1,rfl,d1,d2⟩
 rw[if_neg c4] at h ⊢
 by_cases c5:k.kind=2∧(k.node<1∨99<k.node∨k.node∈x.mem)
 ·rw[if_pos c5] at h;cases h
 rw[if_neg c5] at h ⊢
 by_cases c6:k.kind=2∧x.joiner≠0
 ·rw[if_pos c6] at h;cases h
 rw[if_neg c6] at h ⊢
 by_cases c7:k.kind=2∧x.mem.length=4
 ·rw[if_pos c7] at h;cases h
 rw[if_neg c7] at h ⊢
 by_cases c8:k.kind=2
 ·rw[if_pos c8] at h ⊢
  obtain⟨d1,d2⟩:=done _ h
  have n5:=not_or.1 fun q=>c5 ⟨c8,q⟩
  have n5b:=not_or.1 n5.2
  exact⟨_,.join c8 ⟨by have:=n5.1;omega,by have:=n5b.1;omega⟩ n5b.2 (Classical.not_not.1 fun q=>c6 ⟨c8,q⟩) (fun q=>c7 ⟨c8,q⟩),c1,rfl,d1,d2⟩
 rw[if_neg c8] at h ⊢
 by_cases c9:x.joiner=0
 ·rw[if_pos c9] at h;cases h
 rw[if_neg c9] at h ⊢
 by_cases c10:x.mem.length=4
 ·rw[if_pos c10] at h;cases h
 rw[if_neg c10] at h ⊢
 obtain⟨d1,d2⟩:=done _ h
 exact⟨_,.prom ⟨c4,c8⟩ c9 c10,c1,rfl,d1,d2⟩
theorem turnC_grew {x:Chn} {k:CmdK} (h:(turnC x k).2=0):grewC x (turnC x k).1:=by
 obtain⟨y,m,-,he,-,e⟩:=turnC_mid h
 rw[e]
 cases m with
 | left h1 h2 h3=>exact⟨rfl,rfl,rfl,.inl rfl⟩
 | out h1 h2 h3 =>
  refine⟨rfl,rfl,rfl,.inr (.inl ?_)⟩
  have:=List.idxOf_lt_length_of_mem h2
  show(x.mem.eraseIdx (x.mem.idxOf k.node)).length+1=x.mem.length
  rw[List.length_eraseIdx,if_pos this];omega
 | join h1 h2 h3 h4 h5=>exact⟨rfl,rfl,rfl,.inl rfl⟩
 | prom h1 h2 h3=>exact⟨rfl,rfl,rfl,.inr (.inr rfl)⟩
theorem turnC_ok {ever:Int} {x:Chn} {k:CmdK} (h:(turnC x k).2=0) (hx:chnOk ever x):chnOk ever (turnC x k).1:=by
 obtain⟨y,m,-,he,hm,e⟩:=turnC_mid h
 rw[e]
 obtain⟨a1,a2,⟨b1,b2,b3,b4⟩,⟨c1,c2⟩,a5,a6⟩:=hx
 have he2:countB (y.epoch+1) 1:=by
  refine⟨by omega,?_⟩
  have:y.epoch≠maxCount:=hm
  unfold maxCount at *
  omega
 cases m with
 | left h1 h2 h3=>exact⟨a1,a2,⟨b1,b2,b3,b4⟩,he2,a5,.inl rfl⟩
 | out h1 h2 h3 =>
  have hl:=List.idxOf_lt_length_of_mem h2
  have hlen:(x.mem.eraseIdx (x.mem.idxOf k.node)).length+1=x.mem.length:=by rw[List.length_eraseIdx,if_pos hl];omega
  refine⟨a1,a2,⟨by show 1≤(x.mem.eraseIdx _).length;omega,by show(x.mem.eraseIdx _).length≤4;omega,fun z hz=>b3 z (List.mem_of_mem_eraseIdx hz),b4.sublist (List.eraseIdx_sublist _ _)⟩,he2,a5,?_⟩
  rcases a6 with q | ⟨q1,q2,q3⟩
  ·exact .inl q
  ·exact .inr ⟨q1,q2,fun hz=>q3 (List.mem_of_mem_eraseIdx hz)⟩
 | join h1 h2 h3 h4 h5=>exact⟨a1,a2,⟨b1,b2,b3,b4⟩,he2,a5,.inr ⟨h2.1,h2.2,h3⟩⟩
 | prom h1 h2 h3 =>
  rcases a6 with q | ⟨q1,q2,q3⟩
  ·exact absurd q h2
  ·refine⟨a1,a2,⟨by simp,by show(x.mem++[x.joiner]).length≤4;simp;omega,fun z hz=>?_,?_⟩,he2,a5,.inl rfl⟩
   ·rcases List.mem_append.1 hz with hz|hz
    ·exact b3 z hz
    ·simp at hz;subst hz;exact⟨q1,q2⟩
   ·exact List.nodup_append.2 ⟨b4,by simp,fun a ha b hb=>by simp at hb;subst hb;exact fun e=>q3 (e ▸ ha)⟩
theorem bump_err {c d:Cnf} (h:(bumpC c d).2≠0):(bumpC c d).1=c:=by
 unfold bumpC at *
 split at h
 ·rename_i e;rw[if_pos e]
 ·exact absurd rfl h
theorem bump_ok {c d:Cnf} (h:(bumpC c d).2=0):d.rev≠maxCount∧(bumpC c d).1={ d with rev:=d.rev+1 }:=by
 unfold bumpC at *
 split at h
 ·cases h
 ·rename_i e;rw[if_neg e];exact⟨e,rfl⟩
inductive StepC (c:Cnf) (k:CmdK):Cnf→Prop
 | turn {i:Nat} {x:Chn} (h0:k.kind=1∨k.kind=2∨k.kind=3) (h1:atC c k.chain=some i) (h2:c.chains[i]?=some x) (h3:(turnC x k).2=0):StepC c k { c with chains:=c.chains.set i (turnC x k).1 }
 | index (h0:k.kind=4) (h1:nodesOk k.nodes) (h2:defOk (c.ever+1) k.dfn) (h3:∀ x∈c.chains,x.dfn≠k.dfn) (h4:c.chains.length≠4) (h5:c.ever≠maxCount):StepC c k { c with ever:=c.ever+1,chains:=c.chains++[⟨c.ever+1,k.dfn,1,k.nodes,0⟩] }
 | drop {i:Nat} (h0:k.kind=5) (h1:atC c k.chain=some i) (h2:k.chain≠1):StepC c k { c with chains:=c.chains.eraseIdx i }
theorem applyC_step {c:Cnf} {k:CmdK} (hm:mayC c) (h:(applyC c k).2=0):(k.kind=6∧(applyC c k).1=c)∨(k.kind≠6∧∃ d,StepC c k d∧d.rev=c.rev∧d.rev≠maxCount∧(applyC c k).1={ d with rev:=d.rev+1 }):=by
 unfold applyC at h ⊢
 rw[if_neg (by simpa using hm)] at h ⊢
 by_cases h6:k.kind=6
 ·rw[if_pos h6];exact .inl ⟨h6,rfl⟩
 rw[if_neg h6] at h ⊢
 refine .inr ⟨h6,?_⟩
 by_cases h123:k.kind=1∨k.kind=2∨k.kind=3
 ·rw[if_pos h123] at h ⊢
  cases ha:atC c k.chain with
  | none=>rw[ha] at h;cases h
  | some i =>
   rw[ha] at h
   simp only at h ⊢
   cases hx:c.chains[i]? with
   | none=>rw[hx] at h;cases h
   | some x =>
    rw[hx] at h
    simp only at h ⊢
    by_cases ht:(turnC x k).2≠0
    ·rw[if_pos ht] at h;exact absurd h ht
    ·rw[if_neg ht] at h ⊢
     obtain⟨b1,b2⟩:=bump_ok h
     exact⟨_,.turn h123 ha hx (by simpa using ht),rfl,b1,b2⟩
 rw[if_neg h123] at h ⊢
 by_cases h4:k.kind=4
 ·rw[if_pos h4] at h ⊢
  by_cases q1:¬ (nodesOk k.nodes∧defOk (c.ever+1) k.dfn)
  ·rw[if_pos q1] at h;cases h
  rw[if_neg q1] at h ⊢
  by_cases q2:∃ x∈c.chains,x.dfn=k.dfn
  ·rw[if_pos q2] at h;cases h
  rw[if_neg q2] at h ⊢
  by_cases q3:c.chains.length=4∨c.ever=maxCount
  ·rw[if_pos q3] at h;cases h
  rw[if_neg q3] at h ⊢
  obtain⟨b1,b2⟩:=bump_ok h
  have q1:=Classical.not_not.1 q1
  have q3:=not_or.1 q3
  exact⟨_,.index h4 q1.1 q1.2 (fun x hx e=>q2 ⟨x,hx,e⟩) q3.1 q3.2,rfl,b1,b2⟩
 rw[if_neg h4] at h ⊢
 by_cases h5:k.kind=5
 ·rw[if_pos h5] at h ⊢
  cases ha:atC c k.chain with
  | none=>rw[ha] at h;cases h
  | some i =>
   rw[ha] at h
   simp only at h ⊢
   by_cases q:k.chain=1
   ·rw[if_pos q] at h;cases h
   ·rw[if_neg q] at h ⊢
    obtain⟨b1,b2⟩:=bump_ok h
    exact⟨_,.drop h5 ha q,rfl,b1,b2⟩
 rw[if_neg h5] at h;cases h
theorem applyC_err {c:Cnf} {k:CmdK} (hm:mayC c) (h:(applyC c k).2≠0):(applyC c k).1=c:=by
 unfold applyC at h ⊢
 rw[if_neg (by simpa using hm)] at h ⊢
 by_cases h6:k.kind=6
 ·rw[if_pos h6]
 rw[if_neg h6] at h ⊢
 by_cases h123:k.kind=1∨k.kind=2∨k.kind=3
 ·rw[if_pos h123] at h ⊢
  cases ha:atC c k.chain with
  | none=>rfl
  | some i =>
   rw[ha] at h
   simp only at h ⊢
   cases hx:c.chains[i]? with
   | none=>rfl
   | some x =>
    rw[hx] at h
    simp only at h ⊢
    by_cases ht:(turnC x k).2≠0
    ·rw[if_pos ht]
    ·rw[if_neg ht] at h ⊢;exact bump_err h
 rw[if_neg h123] at h ⊢
 by_cases h4:k.kind=4
 ·rw[if_pos h4] at h ⊢
  by_cases q1:¬ (nodesOk k.nodes∧defOk (c.ever+1) k.dfn)
  ·rw[if_pos q1]
  rw[if_neg q1] at h ⊢
  by_cases q2:∃ x∈c.chains,x.dfn=k.dfn
  ·rw[if_pos q2]
  rw[if_neg q2] at h ⊢
  by_cases q3:c.chains.length=4∨c.ever=maxCount
  ·rw[if_pos q3]
  rw[if_neg q3] at h ⊢
  exact bump_err h
 rw[if_neg h4] at h ⊢
 by_cases h5:k.kind=5
 ·rw[if_pos h5] at h ⊢
  cases ha:atC c k.chain with
  | none=>rfl
  | some i =>
   rw[ha] at h
   simp only at h ⊢
   by_cases q:k.chain=1
   ·rw[if_pos q]
   ·rw[if_neg q] at h ⊢;exact bump_err h
 rw[if_neg h5]
theorem ids_ne {l:List Chn} (h:l.Pairwise (fun x y=>x.id<y.id)) {i j:Nat} {x y:Chn} (hx:l[i]?=some x) (hy:l[j]?=some y) (e:x.id=y.id):i=j:=by
 obtain⟨hi,rfl⟩:=List.getElem?_eq_some_iff.1 hx
 obtain⟨hj,rfl⟩:=List.getElem?_eq_some_iff.1 hy
 rcases Nat.lt_trichotomy i j with q|q|q
 ·have:=List.pairwise_iff_getElem.1 h i j hi hj q;omega
 ·exact q
 ·have:=List.pairwise_iff_getElem.1 h j i hj hi q;omega
theorem atC_at {c:Cnf} {i:Nat} {x:Chn} (h:c.chains.Pairwise (fun x y=>x.id<y.id)) (hx:c.chains[i]?=some x):atC c x.id=some i:=by
 cases ha:atC c x.id with
 | none=>exact absurd rfl (atC_none ha x (List.mem_of_getElem? hx))
 | some j =>
  obtain⟨y,hy,e,_⟩:=atC_some ha
  rw[ids_ne h hy hx e]
theorem set_pair {l:List Chn} (h:l.Pairwise (fun x y=>x.id<y.id)) {i:Nat} {x y:Chn} (hx:l[i]?=some x) (e:y.id=x.id):(l.set i y).Pairwise (fun x y=>x.id<y.id):=by
 obtain⟨hi,rfl⟩:=List.getElem?_eq_some_iff.1 hx
 rw[List.pairwise_iff_getElem] at h ⊢
 intro a b ha hb hab
 simp only [List.length_set] at ha hb
 have:=h a b ha hb hab
 rw[List.getElem_set,List.getElem_set]
 split
 ·rename_i q;subst q
  rw[if_neg (by omega),e];exact this
 ·split
  ·rename_i q;subst q;rw[e];exact this
  ·exact this
theorem applyC_may {c:Cnf} {k:CmdK} (hm:mayC c):mayC (applyC c k).1:=by
 by_cases h:(applyC c k).2=0
 ·rcases applyC_step hm h with ⟨_,e⟩ | ⟨_,d,st,hr,hn,e⟩
  ·rw[e];exact hm
  ·rw[e]
   obtain⟨m1,m2,m3,m4,m5⟩:=hm
   have hrev:countB (d.rev+1) 0:=by
    unfold countB maxCount at *
    rw[hr] at hn ⊢;omega
   cases st with
   | @turn i x h0 h1 h2 h3 =>
    have g:=turnC_grew h3
    refine⟨hrev,m2,by show(c.chains.set i _).length≤4;rw[List.length_set];exact m3,fun y hy=>?_,set_pair m5 h2 g.1⟩
    rcases List.mem_or_eq_of_mem_set hy with hy|rfl
    ·exact m4 y hy
    ·exact turnC_ok h3 (m4 x (List.mem_of_getElem? h2))
   | index h0 h1 h2 h3 h4 h5 =>
    have hev:countB (c.ever+1) 0:=by unfold countB maxCount at *;omega
    have hev1:1≤c.ever+1:=by have:=m2.1;omega
    refine⟨hrev,hev,by show(c.chains++[_]).length≤4;simp;omega,fun y hy=>?_,?_⟩
    ·rcases List.mem_append.1 hy with hy|hy
     ·obtain⟨a1,a2,a3⟩:=m4 y hy
      exact⟨a1,by show y.id≤c.ever+1;omega,a3⟩
     ·simp at hy;subst hy
      exact⟨hev1,Int.le_refl _,h1,by unfold countB maxCount;simp,h2,.inl rfl⟩
    ·refine List.pairwise_append.2 ⟨m5,by simp,fun y hy z hz=>?_⟩
     simp at hz;subst hz
     have:=(m4 y hy).2.1
     show y.id<c.ever+1;omega
   | @drop i h0 h1 h2 =>
    refine⟨hrev,m2,?_,fun y hy=>m4 y (List.mem_of_mem_eraseIdx hy),m5.sublist (List.eraseIdx_sublist _ _)⟩
    have:=(List.eraseIdx_sublist c.chains i).length_le
    show(c.chains.eraseIdx i).length≤4;omega
 ·rw[applyC_err hm h];exact hm
theorem allE_nil:allE []≠0:=by
 have h:parse0 []=sumD lexT 300 []:=rfl
 have k:=(reads_agree (s:=[]) (n:=300) (m:=300) (by decide) (by decide)).2 (by unfold readX;rw[if_pos rfl])
 rw[← h] at k
 have e:parseE []=5:=by rw[parseE,if_neg (by decide),if_pos k]
 have a:allE []=firstE [[]]:=rfl
 rw[a,firstE,if_pos (by rw[e];decide),e];decide
theorem defOk_next {n:Int} {s:ByteArray} (h1:1≤n) (h:defOk n s):defOk (n+1) s ↔ n≠1:=by
 unfold defOk at *
 rw[if_neg (show ¬ n+1=1 by omega)]
 by_cases e:n=1
 ·rw[if_pos e] at h
  subst h
  exact⟨fun k=>absurd k allE_nil,fun k=>absurd e k⟩
 ·rw[if_neg e] at h
  exact⟨fun _=>e,fun _=>h⟩
theorem turnC_no {x:Chn} {k:CmdK} (h:k.epoch≠x.epoch):turnC x k=(x,10):=by rw[turnC,if_pos h]
def wantC (c:Cnf) (k:CmdK):Int:=if k.kind=5 then 4 else if k.kind=4 then(if c.ever=0 then 1 else 11) else 10
theorem applyC_twice {c:Cnf} {k:CmdK} (hm:mayC c) (h:(applyC c k).2=0) (h6:k.kind≠6):(applyC (applyC c k).1 k).2=wantC c k∧(applyC (applyC c k).1 k).1=(applyC c k).1∧(applyC c k).1.rev=c.rev+1:=by
 have hM:=applyC_may (k:=k) hm
 have key:(applyC (applyC c k).1 k).2=wantC c k→wantC c k≠0∧(applyC c k).1.rev=c.rev+1→(applyC (applyC c k).1 k).2=wantC c k∧(applyC (applyC c k).1 k).1=(applyC c k).1∧(applyC c k).1.rev=c.rev+1:=fun h1 h2 =>
  ⟨h1,applyC_err hM (by rw[h1];exact h2.1),h2.2⟩
 have hw:wantC c k≠0:=by
  unfold wantC
  by_cases a:k.kind=5
  ·rw[if_pos a];decide
  rw[if_neg a]
  by_cases b:k.kind=4
  ·rw[if_pos b]
   by_cases d:c.ever=0
   ·rw[if_pos d];decide
   ·rw[if_neg d];decide
  ·rw[if_neg b];decide
 rcases applyC_step hm h with ⟨q,_⟩ | ⟨_,d,st,hr,hn,e⟩
 ·exact absurd q h6
 refine key ?_ ⟨hw,by rw[e];show d.rev+1=_;rw[hr]⟩
 rw[e] at hM ⊢
 unfold applyC
 rw[if_neg (by simpa using hM),if_neg h6]
 cases st with
 | @turn i x h0 h1 h2 h3 =>
  rw[if_pos h0]
  have g:=turnC_grew h3
  obtain⟨y,_,he,_,_,_⟩:=turnC_mid h3
  obtain⟨x2,hx2,hid,_⟩:=atC_some h1
  rw[h2] at hx2;cases hx2
  have hi:i<c.chains.length:=(List.getElem?_eq_some_iff.1 h2).1
  have hat:(c.chains.set i (turnC x k).1)[i]?=some (turnC x k).1:=by rw[List.getElem?_set_self hi]
  have ha:=atC_at (c:={ c with rev:=c.rev+1,chains:=c.chains.set i (turnC x k).1 }) (i:=i) (x:=(turnC x k).1) hM.2.2.2.2 hat
  rw[g.1,hid] at ha
  rw[ha]
  simp only
  rw[hat]
  simp only
  have ht:=turnC_no (x:=(turnC x k).1) (k:=k) (by have:=g.2.2.1;omega)
  have hwant:wantC c k=10:=by rw[wantC,if_neg (by omega),if_neg (by omega)]
  rw[ht,if_pos (by simp),hwant]
 | index h0 h1 h2 h3 h4 h5 =>
  rw[if_neg (by omega),if_pos h0]
  have hev:1≤c.ever+1:=by have:=hm.2.1.1;omega
  have hd:=defOk_next hev h2
  have hwant:wantC c k=if c.ever=0 then 1 else 11:=by rw[wantC,if_neg (by omega),if_pos h0]
  rw[hwant]
  by_cases e0:c.ever=0
  ·rw[if_pos e0,if_pos]
   rintro ⟨_,k2⟩
   have k2:defOk (c.ever+1+1) k.dfn:=k2
   exact hd.1 k2 (by omega)
  ·rw[if_neg e0,if_neg,if_pos]
   ·exact⟨_,List.mem_append.2 (.inr (List.mem_singleton.2 rfl)),rfl⟩
   ·intro k1
    exact k1 ⟨h1,hd.2 (by omega)⟩
 | @drop i h0 h1 h2 =>
  have hwant:wantC c k=4:=by rw[wantC,if_pos h0]
  rw[if_neg (by omega),if_neg (by omega),if_pos h0,hwant]
  obtain⟨x,hx,hid,_⟩:=atC_some h1
  cases ha:atC { c with rev:=c.rev+1,chains:=c.chains.eraseIdx i } k.chain with
  | none=>simp only [ha]
  | some j =>
   obtain⟨y,hy,hid2,_⟩:=atC_some ha
   have hy:(c.chains.eraseIdx i)[j]?=some y:=hy
   rw[List.getElem?_eraseIdx] at hy
   exfalso
   split at hy
   ·have:=ids_ne hm.2.2.2.2 hx hy (by rw[hid,hid2]);omega
   ·have:=ids_ne hm.2.2.2.2 hx hy (by rw[hid,hid2]);omega
open Classical in
noncomputable def defD (id:Int) (s:ByteArray):Bool:=decide (defOk id s)
open Classical in
theorem defD_iff {id:Int} {s:ByteArray}:defD id s=true ↔ defOk id s:=by rw[defD,decide_eq_true_eq]
theorem defOk_iff {id:Int} {s:ByteArray}:defOk id s ↔ (id=1∧s=ByteArray.empty)∨(id≠1∧allE s.data.toList=0):=by
 rw[defOk]
 by_cases h:id=1
 ·rw[if_pos h];simp [h]
 ·rw[if_neg h];simp [h]
def nodesTo (l:List Int) (i:Nat):Prop:=(∀ x∈l.take i,1≤x∧x≤99)∧(l.take i).Nodup
theorem nodesTo_zero (l:List Int):nodesTo l 0:=⟨fun x h=>by simp at h,by simp⟩
theorem nodesTo_step {l:List Int} {i:Nat} {x:Int} (hx:l[i]?=some x) (h:nodesTo l i) (h1:1≤x∧x≤99) (h2:x ∉ l.take i):nodesTo l (i+1):=by
 unfold nodesTo
 rw[take_snoc hx]
 refine⟨fun y hy=>?_,?_⟩
 ·rcases List.mem_append.1 hy with hy|hy
  ·exact h.1 y hy
  ·simp at hy;subst hy;exact h1
 ·exact List.nodup_append.2 ⟨h.2,by simp,fun a ha b hb=>by simp at hb;subst hb;exact fun e=>h2 (e ▸ ha)⟩
theorem nodesOk_no {l:List Int} {i:Nat} {x:Int} (hx:l[i]?=some x) (h:¬ (1≤x∧x≤99)∨x∈l.take i):¬ nodesOk l:=fun k=>by
 rcases h with h|h
 ·exact h (k.2.2.1 x (List.mem_of_getElem? hx))
 ·obtain⟨j,hj,e⟩:=List.getElem_of_mem h
  rw[List.length_take] at hj
  rw[List.getElem_take] at e
  obtain⟨hi,e2⟩:=List.getElem?_eq_some_iff.1 hx
  have:=(List.pairwise_iff_getElem.1 k.2.2.2) j i (by omega) hi (by omega)
  exact this (by rw[e,e2])
theorem nodesOk_end {l:List Int} {i:Nat} (h:nodesTo l i) (hi:l.length≤i):nodesOk l ↔ 1≤l.length∧l.length≤4:=by
 unfold nodesTo at h
 rw[List.take_of_length_le hi] at h
 exact⟨fun k=>⟨k.1,k.2.1⟩,fun k=>⟨k.1,k.2,h.1,h.2⟩⟩
open Classical in
noncomputable def nodesD (l:List Int):Bool:=decide (nodesOk l)
open Classical in
theorem nodesD_iff {l:List Int}:nodesD l=true ↔ nodesOk l:=by rw[nodesD,decide_eq_true_eq]
open Classical in
noncomputable def mayD (c:Cnf):Bool:=decide (mayC c)
open Classical in
theorem mayD_iff {c:Cnf}:mayD c=true ↔ mayC c:=by rw[mayD,decide_eq_true_eq]
theorem Ex.chn (O:Opq) {l:List Chn} {k:Nat} {x:Chn} (hx:l[k]?=some x) {i:Int} {K:List PV→Prop} (hi:i=k) (h:K (x.enc O)):Ex (List PV) (fun row=>0≤i∧(O.o (Chns.enc O) l)[i.toNat]?=some row) K :=
 .mk (x.enc O) ⟨by omega,by rw[O.h,Chns.enc,List.getElem?_map,hi,Int.toNat_natCast,hx];rfl⟩ h
def chnsTo (c:Cnf) (i:Nat):Prop:=(∀ x∈c.chains.take i,chnOk c.ever x)∧(c.chains.take i).Pairwise (fun x y=>x.id<y.id)
theorem chnsTo_zero (c:Cnf):chnsTo c 0:=⟨fun x h=>by simp at h,by simp⟩
def aheadOk (c:Cnf) (i:Nat) (x:Chn):Prop:=∀ y,0<i→c.chains[i-1]?=some y→y.id<x.id
theorem chnsTo_step {c:Cnf} {i:Nat} {x:Chn} (hx:c.chains[i]?=some x) (h:chnsTo c i) (h1:chnOk c.ever x) (h2:aheadOk c i x):chnsTo c (i+1):=by
 unfold chnsTo at *
 rw[take_snoc hx]
 refine⟨fun y hy=>?_,?_⟩
 ·rcases List.mem_append.1 hy with hy|hy
  ·exact h.1 y hy
  ·simp at hy;subst hy;exact h1
 ·refine List.pairwise_append.2 ⟨h.2,by simp,fun a ha b hb=>?_⟩
  simp at hb;subst hb
  cases i with
  | zero=>simp at ha
  | succ m =>
   have hm:m<c.chains.length:=by have:=(List.getElem?_eq_some_iff.1 hx).1;omega
   have hy:c.chains[m]?=some c.chains[m]:=by simp [hm]
   have hl:=h2 c.chains[m] (by omega) hy
   have ht:=take_snoc hy
   rw[ht] at ha
   rcases List.mem_append.1 ha with ha|ha
   ·have hp:=h.2
    rw[ht] at hp
    have:=(List.pairwise_append.1 hp).2.2 a ha c.chains[m] (by simp)
    omega
   ·simp at ha;subst ha;exact hl
theorem mayC_no {c:Cnf} {i:Nat} {x:Chn} (hx:c.chains[i]?=some x) (h:¬ chnOk c.ever x∨¬ aheadOk c i x):¬ mayC c:=fun k=>by
 rcases h with h|h
 ·exact h (k.2.2.2.1 x (List.mem_of_getElem? hx))
 ·apply h
  intro y h0 hy
  obtain⟨hi,e⟩:=List.getElem?_eq_some_iff.1 hx
  obtain⟨hj,e2⟩:=List.getElem?_eq_some_iff.1 hy
  have:=List.pairwise_iff_getElem.1 k.2.2.2.2 (i-1) i hj hi (by omega)
  rwa [e,e2] at this
theorem mayC_end {c:Cnf} {i:Nat} (h:chnsTo c i) (hi:c.chains.length≤i):mayC c ↔ countB c.rev 0∧countB c.ever 0∧c.chains.length≤4:=by
 unfold chnsTo at h
 rw[List.take_of_length_le hi] at h
 exact⟨fun k=>⟨k.1,k.2.1,k.2.2.1⟩,fun k=>⟨k.1,k.2.1,k.2.2,h.1,h.2⟩⟩
open Classical in
noncomputable def mayE (c:Cnf):Int:=if mayC c then 0 else 1
theorem mayE_yes {c:Cnf} (h:mayC c):mayE c=0:=by rw[mayE,if_pos h]
theorem mayE_no {c:Cnf} (h:¬ mayC c):mayE c=1:=by rw[mayE,if_neg h]
theorem chnOk_iff {ever:Int} {x:Chn}:chnOk ever x ↔ 1≤x.id∧x.id≤ever∧nodesD x.mem=true∧(1≤x.epoch∧x.epoch≤2147483647)∧defD x.id x.dfn=true∧(x.joiner=0∨(1≤x.joiner∧x.joiner≤99∧¬ x.joiner∈x.mem)):=by
 rw[nodesD_iff,defD_iff];rfl
end Go.Sym
