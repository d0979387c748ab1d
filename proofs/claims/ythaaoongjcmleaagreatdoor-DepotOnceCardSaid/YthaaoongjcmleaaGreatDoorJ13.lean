/- Depots: documents, their feed, what clients asked last. -/
import Derived.Test.YthaaoongjcmleaaGreatDoorJ12
import Derived.Test.YthaaoongjcmleaaGreatDoorJ11
import Derived.Test.YthaaoongjcmleaaGreatDoorJ6
import Derived.Test.YthaaoongjcmleaaGreatDoorJ10
import Derived.Test.YthaaoongjcmleaaGreatDoorJ8
import Derived.Test.YthaaoongjcmleaaGreatDoorJ9
set_option linter.all false
set_option linter.unusedVariables false
set_option linter.unusedSimpArgs false
namespace Go.Sym
open Go
structure LastR where
 client:Int
 id:Int
 answer:Answer
structure Depot where
 docs:List Ndoc
 feed:Feed
 last:List LastR
structure Reqn where
 client:Int
 id:Int
 op:Opn
def LastR.enc (O:Opq) (l:LastR):List PV:=[.int .i64 l.client,.int .i64 l.id,.int .i64 l.answer.code,.bool l.answer.has,.sl false 0 false 6 (O.o Doc.enc l.answer.doc),.sl false 0 false 2 (O.o (Nms.enc O) l.answer.docs),.sl false 0 false 4 (O.o (Chs.enc O) l.answer.news),.int .i64 l.answer.n,.int .i64 l.answer.total,.sl false 0 false 2 (O.o Prs.enc l.answer.keys)]
def Lasts.enc (O:Opq) (l:List LastR):List (List PV):=l.map (LastR.enc O)
theorem Lasts.len (O:Opq) (l:List LastR):(O.o (Lasts.enc O) l).length=l.length:=by rw[O.h,Lasts.enc,List.length_map]
def Depot.enc (O:Opq) (d:Depot):List PV:=[.sl false 0 false 2 (O.o (Nms.enc O) d.docs),.int .i64 d.feed.base,.int .i64 d.feed.total,.sl false 0 false 4 (O.o (Chs.enc O) d.feed.changes),.sl false 0 false 2 (O.o Subs.enc d.feed.subs),.sl false 0 false 10 (O.o (Lasts.enc O) d.last)]
def Reqn.en (O:Opq) (q:Reqn):List PV:=[.int .i64 q.client,.int .i64 q.id,.int .i64 q.op.kind,.str q.op.key,.str q.op.to,.sl false 0 false 6 (O.o Doc.enc q.op.doc),.sl false 0 false 6 (O.o Doc.enc q.op.want),.bool q.op.has,.int .i64 q.op.n,.int .i64 q.op.most,.sl false 0 false 11 (O.o (Ops.enc O) q.op.list),.sl false 0 false 2 (O.o (Nms.enc O) q.op.docs),.sl false 0 false 4 (O.o (Chs.enc O) q.op.news)]
def zeroD:Depot:=⟨[],zeroF,[]⟩
def countB (n:Int):Bool:=decide (1≤n∧n≤2147483647)
def okLast (l:List LastR) (i:Nat):Prop:=∃ x,l[i]?=some x∧countB x.client=true∧countB x.id=true∧(0<i→∃ g,l[i-1]?=some g∧g.client<x.client)
theorem okLast_iff {l:List LastR} {k:Nat} {x:LastR} (h:l[k]?=some x):okLast l k ↔ countB x.client=true∧countB x.id=true∧(0<k→∃ g,l[k-1]?=some g∧g.client<x.client):=by
 simp only [okLast,h,Option.some.injEq]
 exact⟨fun⟨f,e,k⟩=>by subst e;exact k,fun k=>⟨x,rfl,k⟩⟩
open Classical in
noncomputable def lastsOk (l:List LastR):Bool:=decide (l.length≤8∧∀ i,i<l.length→okLast l i)
noncomputable def mayDp (d:Depot):Bool:=mayD d.docs && mayF d.feed && lastsOk d.last
noncomputable def depotErr (d:Depot):Int:=if mayDp d=true then 0 else 1
theorem depotErr_zero {d:Depot}:depotErr d=0 ↔ mayDp d=true:=by rw[depotErr];split<;>simp_all
theorem mayDp_iff {d:Depot}:mayDp d=true ↔ mayD d.docs=true∧mayF d.feed=true∧lastsOk d.last=true:=by
 rw[mayDp,Bool.and_eq_true,Bool.and_eq_true,and_assoc]
theorem lastsOk_bad {l:List LastR} {i:Nat} {x:LastR} (hx:l[i]?=some x) (h:¬ (countB x.client=true∧countB x.id=true∧(0<i→∃ g,l[i-1]?=some g∧g.client<x.client))):lastsOk l=false:=by
 simp only [lastsOk,decide_eq_false_iff_not]
 exact fun k=>h ((okLast_iff hx).1 (k.2 i (List.getElem?_eq_some_iff.1 hx).1))
theorem lastsOk_good {l:List LastR} (hl:l.length≤8) (h:∀ i,i<l.length→okLast l i):lastsOk l=true:=by
 simp only [lastsOk,decide_eq_true_eq];exact⟨hl,h⟩
def sortedL (l:List LastR):Prop:=l.Pairwise fun x y=>x.client<y.client
theorem lastsOk_iff {l : List LastR} : lastsOk l = true ↔ l.length ≤ 8 ∧ (∀ x ∈ l, countB x.client = true ∧ countB x.id = true) ∧ sortedL l := by
  constructor
  · intro h
    simp only [lastsOk, decide_eq_true_eq] at h
    obtain ⟨h0, h⟩ := h
    refine ⟨h0, ?_, ?_⟩
    · intro n hn
      obtain ⟨i, hi, rfl⟩ := List.getElem_of_mem hn
      have := (okLast_iff (l := l) (k := i) (x := l[i]) (by simp)).1 (h i hi)
      exact ⟨this.1, this.2.1⟩
    · refine List.pairwise_iff_getElem.2 fun i j hi hj hij => ?_
      have step : ∀ n : Nat, ∀ k, i + 1 + n = k → ∀ hk : k < l.length, l[i].client < l[k].client := by
        intro n
        induction n with
        | zero =>
          intro k e hk
          subst e
          obtain ⟨g, hg, hs⟩ := ((okLast_iff (x := l[i + 1]) (by simp)).1 (h (i + 1) hk)).2.2 (by omega)
          rw [show i + 1 - 1 = i by omega, List.getElem?_eq_getElem hi] at hg
          cases hg; exact hs
        | succ n ih =>
          intro k e hk
          have h1 := ih (k - 1) (by omega) (by omega)
          obtain ⟨g, hg, hs⟩ := ((okLast_iff (x := l[k]) (by simp)).1 (h k hk)).2.2 (by omega)
          rw [List.getElem?_eq_getElem (by omega)] at hg
          have hg := Option.some.inj hg
          rw [← hg] at hs
          omega
      exact step (j - i - 1) j (by omega) hj
  · rintro ⟨h0, h1, h2⟩
    refine lastsOk_good h0 fun i hi => (okLast_iff (x := l[i]) (by simp)).2 ⟨(h1 _ (List.getElem_mem hi)).1, (h1 _ (List.getElem_mem hi)).2, fun h0 => ⟨l[i - 1], by simp, ?_⟩⟩
    exact List.pairwise_iff_getElem.1 h2 (i - 1) i (by omega) hi (by omega)
/-! what is asked of a depot -/
def turnsB (k:Int):Bool:=decide (1≤k∧k≤3∨6≤k∧k≤10)
noncomputable def readsA (d:Depot) (o:Opn):Answer :=
 if o.kind=4∨o.kind=5 then(applyR d.docs o 0).2.1
 else if o.kind=11 then(if readE d.feed o.key o.most=0 then⟨0,false,[],[],readR d.feed o.key o.most,readAt d.feed o.key o.most,d.feed.total,[]⟩ else refA (readE d.feed o.key o.most))
 else if o.kind=12 then(if pullE d.feed o.n o.most=0 then⟨0,false,[],[],pullR d.feed o.n o.most,0,d.feed.total,[]⟩ else refA (pullE d.feed o.n o.most))
 else if o.kind=13 then⟨0,false,[],d.docs,[],d.feed.total,0,[]⟩
 else refA 1
noncomputable def turnR (d:Depot) (o:Opn):Depot×Answer :=
 if o.kind=7 then(⟨d.docs,openR d.feed o.key o.n,d.last⟩,refA (openE d.feed o.key o.n))
 else if o.kind=8 then(⟨d.docs,ackR d.feed o.key o.n,d.last⟩,refA (ackE d.feed o.key o.n))
 else if o.kind=9 then(⟨d.docs,closeR d.feed o.key,d.last⟩,refA (closeE d.feed o.key))
 else if o.kind=10 then(⟨d.docs,trimR d.feed o.n,d.last⟩,refA 0)
 else if 2147483639<d.feed.total then(d,refA 2)
 else(⟨(applyR d.docs o d.feed.total).1,addR d.feed (applyR d.docs o d.feed.total).2.2,d.last⟩,(applyR d.docs o d.feed.total).2.1)
def hasL (c:Int) (x:LastR):Bool:=decide (x.client=c)
def getL (l:List LastR) (c:Int):Bool:=l.any (hasL c)
def posL (l:List LastR) (c:Int):Nat:=l.findIdx fun x=>decide (c≤x.client)
def putL (l:List LastR) (x:LastR):List LastR:=if getL l x.client=true then l.set (posL l x.client) x else insK l (posL l x.client) x
def lastA (l:List LastR) (c:Int):LastR:=match l[posL l c]? with
 | some x=>x
 | none=>⟨0,0,ans0⟩
def toldL (l:List LastR) (c i:Int):Option Answer :=
 if ¬ (countB c=true∧countB i=true) then some (refA 1)
 else if getL l c=true∧(lastA l c).id=i then some (lastA l c).answer
 else if getL l c=true∧i<(lastA l c).id then some (refA 8)
 else if getL l c=false∧l.length=8 then some (refA 2)
 else none
noncomputable def depotR (d : Depot) (q : Reqn) : Depot × Answer :=
  if turnsB q.op.kind = false then (d, readsA d q.op)
  else if q.client = 0 then turnR d q.op
  else match toldL d.last q.client q.id with
    | some a => (d, a)
    | none => (⟨(turnR d q.op).1.docs, (turnR d q.op).1.feed, putL d.last ⟨q.client, q.id, (turnR d q.op).2⟩⟩, (turnR d q.op).2)
/-! where a client stands -/
theorem posL_lo {l:List LastR} {c:Int}:∀ (j:Nat) y,j<posL l c→l[j]?=some y→y.client<c:=fun j y hj hy=>by
 have:=List.not_of_lt_findIdx (by unfold posL at hj;exact hj)
 obtain⟨h1,h2⟩:=List.getElem?_eq_some_iff.1 hy
 rw[h2] at this
 simpa using this
theorem posL_le (l:List LastR) (c:Int):posL l c≤l.length:=List.findIdx_le_length
theorem sortedL_lt {l:List LastR} (hs:sortedL l) {i j:Nat} {x y:LastR} (hij:i<j) (hx:l[i]?=some x) (hy:l[j]?=some y):x.client<y.client:=by
 obtain⟨h1,rfl⟩:=List.getElem?_eq_some_iff.1 hx
 obtain⟨h2,rfl⟩:=List.getElem?_eq_some_iff.1 hy
 exact List.pairwise_iff_getElem.1 hs i j h1 h2 hij
theorem posL_hi {l:List LastR} (hs:sortedL l) {c:Int}:∀ (j:Nat) y,posL l c≤j→l[j]?=some y→c≤y.client:=fun j y hj hy=>by
 have hjl:=(List.getElem?_eq_some_iff.1 hy).1
 have hlt:posL l c<l.length:=by omega
 have h1:c≤(l[posL l c]).client:=by
  have h2:posL l c=l.findIdx fun x=>decide (c≤x.client):=rfl
  have h3:=List.findIdx_getElem (xs:=l) (p:=fun x=>decide (c≤x.client)) (w:=by rw[← h2];exact hlt)
  simp only [decide_eq_true_eq] at h3
  exact h3
 by_cases e:j=posL l c
 ·subst e
  rw[(List.getElem?_eq_some_iff.1 hy).2] at h1
  exact h1
 ·have:=sortedL_lt hs (i:=posL l c) (j:=j) (by omega) (List.getElem?_eq_getElem hlt) hy
  omega
theorem posL_at {l:List LastR} {c:Int} {n:Nat} (h1:n≤l.length) (h4:∀ (j:Nat) y,j<n→l[j]?=some y→y.client<c) (h5:∀ (j:Nat) y,n≤j→l[j]?=some y→c≤y.client):posL l c=n:=by
 by_cases hn:n<l.length
 ·refine(List.findIdx_eq hn).2 ⟨by simpa using h5 n _ (by omega) (by simp [hn]),fun j hj=>?_⟩
  have:=h4 j l[j] (by omega) (by simp)
  simpa using this
 ·have hn:n=l.length:=by omega
  subst hn
  refine List.findIdx_eq_length.2 fun x hx=>?_
  obtain⟨j,hj,rfl⟩:=List.getElem_of_mem hx
  have:=h4 j l[j] (by omega) (by simp [hj])
  simpa using this
theorem posL_there {l:List LastR} {c:Int} (hs:sortedL l) (h:getL l c=true):∃ x,l[posL l c]?=some x∧x.client=c:=by
 obtain⟨y,hy,hp⟩:=List.any_eq_true.1 h
 simp only [hasL,decide_eq_true_eq] at hp
 obtain⟨j,hj,rfl⟩:=List.getElem_of_mem hy
 have hjx:l[j]?=some l[j]:=by simp [hj]
 have h1:posL l c≤j:=by
  apply Nat.le_of_not_lt
  intro k
  have:=posL_lo j _ k hjx
  omega
 have hlt:posL l c<l.length:=by omega
 have h2:=posL_hi hs (posL l c) l[posL l c] (Nat.le_refl _) (by simp [hlt])
 by_cases e:posL l c=j
 ·exact⟨l[j],by rw[e];exact hjx,hp⟩
 ·have:=sortedL_lt hs (i:=posL l c) (j:=j) (by omega) (x:=l[posL l c]) (by simp [hlt]) hjx
  omega
theorem getL_no {l:List LastR} {c:Int} (h:getL l c=false):∀ y∈l,y.client≠c:=fun y hy e=>by
 have:=List.any_eq_false.1 h y hy
 simp [hasL,e] at this
theorem lastA_at {l:List LastR} {c:Int} {x:LastR} (h:l[posL l c]?=some x):lastA l c=x:=by rw[lastA,h]
theorem putL_set {l:List LastR} {x:LastR} (h:getL l x.client=true):putL l x=l.set (posL l x.client) x:=by rw[putL,if_pos h]
theorem putL_ins {l:List LastR} {x:LastR} (h:getL l x.client=false):putL l x=insK l (posL l x.client) x:=by rw[putL,if_neg (by simp [h])]
theorem putL_mem {l:List LastR} {x y:LastR} (h:y∈putL l x):y=x∨y∈l:=by
 unfold putL at h
 split at h
 ·rcases List.mem_or_eq_of_mem_set h with h|h
  ·exact .inr h
  ·exact .inl h
 ·rw[insK] at h
  rcases List.mem_append.1 h with h|h
  ·exact .inr (List.mem_of_mem_take h)
  ·rcases List.mem_cons.1 h with h|h
   ·exact .inl h
   ·exact .inr (List.mem_of_mem_drop h)
theorem putL_sorted {l:List LastR} {x:LastR} (hs:sortedL l):sortedL (putL l x):=by
 cases g:getL l x.client
 ·rw[putL_ins g,insK,sortedL,List.pairwise_append]
  refine⟨hs.sublist (List.take_sublist _ _),List.pairwise_cons.2 ⟨fun y hy=>?_,hs.sublist (List.drop_sublist _ _)⟩,fun a ha b hb=>?_⟩
  ·have hne:=getL_no g y (List.mem_of_mem_drop hy)
   obtain⟨j,hj,rfl⟩:=List.getElem_of_mem hy
   rw[List.length_drop] at hj
   rw[List.getElem_drop] at hne ⊢
   have:=posL_hi hs (c:=x.client) (posL l x.client+j) _ (by omega) (List.getElem?_eq_getElem (by omega))
   omega
  ·obtain⟨j,hj,rfl⟩:=List.getElem_of_mem ha
   rw[List.length_take] at hj
   rw[List.getElem_take]
   have h1:=posL_lo (l:=l) (c:=x.client) j l[j] (by omega) (by simp)
   rcases List.mem_cons.1 hb with e|hb
   ·subst e;exact h1
   ·obtain⟨i,hi,rfl⟩:=List.getElem_of_mem hb
    rw[List.length_drop] at hi
    rw[List.getElem_drop]
    exact sortedL_lt hs (i:=j) (j:=posL l x.client+i) (by omega) (by simp) (by simp)
 ·obtain⟨z,hz,he⟩:=posL_there hs g
  rw[putL_set g]
  have hm:(l.set (posL l x.client) x).map LastR.client=l.map LastR.client:=by
   apply List.ext_getElem?
   intro j
   rw[List.getElem?_map,List.getElem?_map,List.getElem?_set]
   split
   ·rename_i h;subst h
    split
    ·rw[hz];simp [he]
    ·rename_i h;rw[List.getElem?_eq_none (by omega)] at hz;cases hz
   ·rfl
  have h2:∀ m:List LastR,sortedL m ↔ (m.map LastR.client).Pairwise (·<·):=fun m=>by rw[List.pairwise_map];rfl
  rw[h2,hm,← h2];exact hs
theorem putL_len {l:List LastR} {x:LastR} (h:getL l x.client=false→l.length≠8) (hl:l.length≤8):(putL l x).length≤8:=by
 cases g:getL l x.client
 ·rw[putL_ins g,insK];have:=h g;simp;omega
 ·rw[putL_set g];simpa using hl
theorem putL_ok {l:List LastR} {x:LastR} (hl:lastsOk l=true) (h1:countB x.client=true∧countB x.id=true) (h:getL l x.client=false→l.length≠8):lastsOk (putL l x)=true:=by
 obtain⟨a,b,c⟩:=lastsOk_iff.1 hl
 refine lastsOk_iff.2 ⟨putL_len h a,fun y hy=>?_,putL_sorted c⟩
 rcases putL_mem hy with rfl|hy
 ·exact h1
 ·exact b y hy
def bsI (f:Nat→Int) (i j:Nat):Nat:=if i<j then(if f ((i+j) / 2)<0 then bsI f ((i+j) / 2+1) j else bsI f i ((i+j) / 2)) else i
termination_by j-i
decreasing_by all_goals omega
theorem bsI_le (f:Nat→Int) (i j:Nat) (h:i≤j):i≤bsI f i j∧bsI f i j≤j:=by
 induction i,j using bsI.induct f with
 | case1 i j h1 h2 ih=>rw[bsI,if_pos h1,if_pos h2];have:=ih (by omega);omega
 | case2 i j h1 h2 ih=>rw[bsI,if_pos h1,if_neg h2];have:=ih (by omega);omega
 | case3 i j h1=>rw[bsI,if_neg h1];omega
theorem bsI_sorted {f:Nat→Int} {n:Nat} (hs:∀ a b,a≤b→b<n→f b<0→f a<0) (i j:Nat) (h:i≤j) (hj:j≤n) (hlo:∀ a,a<i→f a<0) (hhi:∀ a,j≤a→a<n→¬ f a<0) :
  (∀ a,a<bsI f i j→f a<0)∧∀ a,bsI f i j≤a→a<n→¬ f a<0:=by
 induction i,j using bsI.induct f with
 | case1 i j h1 h2 ih =>
  rw[bsI,if_pos h1,if_pos h2]
  exact ih (by omega) hj (fun a ha=>hs a ((i+j) / 2) (by omega) (by omega) h2) hhi
 | case2 i j h1 h2 ih =>
  rw[bsI,if_pos h1,if_neg h2]
  exact ih (by omega) (by omega) hlo fun a ha hn k=>h2 (hs _ a ha hn k)
 | case3 i j h1 =>
  rw[bsI,if_neg h1]
  exact⟨hlo,fun a ha hn=>hhi a (by omega) hn⟩
def okCh (c:Change):Prop:=isKey c.key=true∧may c.doc=true∧(c.has=true∨c.doc=[])
theorem writeC_ok {l:List Ndoc} {o:Opn} (h:(writeA l o).code=0) (p:Int):okCh { writeC o with pos:=p }:=by
 obtain⟨h1,_,h3,_,_⟩:=writeA_ok h
 by_cases h2:o.kind=2
 ·have e:writeC o=⟨0,o.key,false,[]⟩:=by rw[writeC,if_pos h2]
  rw[e];exact⟨h1,may_nil,.inr rfl⟩
 ·have e:writeC o=⟨0,o.key,true,o.doc⟩:=by rw[writeC,if_neg h2]
  rw[e];exact⟨h1,h3 h2,.inl rfl⟩
theorem runB_ok {first:List Ndoc} {total t:Int}:∀ (ops:List Opn) (now:List Ndoc) (out:List Change),(runB first total ops now out).2.1.code=0→∀ c∈writeCs t ops,okCh c
 | [],now,out,_,c,hc=>by simp [writeCs] at hc
 | o::l,now,out,h,c,hc=>by
  rw[runB] at h
  by_cases hw:(writeA now o).code≠0
  ·rw[if_pos hw] at h;exact absurd h hw
  ·rw[if_neg hw] at h
   rw[writeCs] at hc
   rcases List.mem_cons.1 hc with rfl|hc
   ·exact writeC_ok (by simpa using hw) _
   ·exact runB_ok (t:=t+1) l _ _ h c hc
theorem applyR_ok {l:List Ndoc} (o:Opn) (total:Int) (hm:mayD l=true) {R1:List Ndoc} {R2:Answer} {R3:List Change} (hR:applyR l o total=(R1,R2,R3)):mayD R1=true∧R1=foldAll l R3∧posFrom total R3∧(∀ c∈R3,okCh c)∧R3.length≤4∧SmallA l R2:=by
 rcases applyR_spec o total hm with ⟨a,h1,h2,_⟩ | ⟨h1,h2,h3,h4⟩
 ·rw[hR] at h1;cases h1
  exact⟨hm,rfl,posFrom_nil _,by simp,by simp,h2⟩
 ·have hc:∀ c∈writeCs total (writesOf o),okCh c:=by
   rw[hR] at h1
   cases h1
   rw[applyR] at hR
   by_cases hw:writesB o=true
   ·rw[if_pos hw] at hR
    have e:writesOf o=[o]:=by rw[writesOf,if_pos hw]
    rw[batchR,if_neg (by simp [notWrites,hw])] at hR
    rw[e] at hR ⊢
    exact runB_ok (first:=l) (total:=total) [o] l [] (by rw[hR];rfl)
   ·rw[if_neg hw] at hR
    rcases h3 with h3|h3
    ·exact absurd h3 hw
    ·rw[if_pos h3] at hR
     by_cases hg:o.list.length<1∨4<o.list.length∨o.list.any notWrites=true
     ·exact absurd (by rw[writesOf,if_neg hw,if_neg (fun k=>k.2 hg)]) h4
     ·have e:writesOf o=o.list:=by rw[writesOf,if_neg hw,if_pos ⟨h3,hg⟩]
      rw[batchR,if_neg hg] at hR
      rw[e] at hR ⊢
      exact runB_ok (first:=l) (total:=total) o.list l [] (by rw[hR];rfl)
  rw[hR] at h1;cases h1
  exact⟨h2,rfl,writeCs_pos _ _,hc,by rw[writeCs_len];exact writesOf_len o,small_ans _ _⟩
theorem addF_may {f:Feed} {l:List Change} (h:mayF f=true) (hp:posFrom f.total l) (hc:∀ c∈l,okCh c) (ht:f.total+l.length≤2147483647):mayF (addF f l)=true:=by
 obtain⟨⟨a1,a2,a3,a4,a5⟩,b,c⟩:=mayF_iff.1 h
 refine mayF_of ⟨a1,?_,?_,?_,a5⟩ ?_ (fun s hs=>?_) (show sortedK Sub.name f.subs from mayF_subs h)
 ·show f.base≤f.total+l.length;omega
 ·exact ht
 ·show f.total+l.length-f.base=((f.changes++l).length:Int);rw[List.length_append];omega
 ·intro i x hi hx
  have hx:(f.changes++l)[i]?=some x:=hx
  by_cases hlt:i<f.changes.length
  ·rw[List.getElem?_append_left hlt] at hx
   exact b i x hlt hx
  ·rw[List.getElem?_append_right (by omega)] at hx
   have h1:=hp _ x hx
   obtain⟨h2,h3,h4⟩:=hc x (List.mem_of_getElem? hx)
   refine⟨?_,h2,h3,h4⟩
   show x.pos=f.base+i+1
   omega
 ·have:=mayF_sub h s hs
  exact⟨this.1,this.2.1,by show s.pos≤f.total+l.length;omega⟩
theorem add_ok {f:Feed} {l:List Change} (h:mayF f=true) (hp:posFrom f.total l) (hc:∀ c∈l,okCh c) (ht:f.total+l.length≤2147483647):addE f l=0∧addR f l=addF f l:=addE_ok h (addF_may h hp hc ht)
theorem turnR_may {d:Depot} (o:Opn) (hd:mayD d.docs=true) (hf:mayF d.feed=true):mayD (turnR d o).1.docs=true∧mayF (turnR d o).1.feed=true∧(turnR d o).1.last=d.last:=by
 unfold turnR
 split
 ·exact⟨hd,openR_may _ _ hf,rfl⟩
 ·split
  ·exact⟨hd,ackR_may _ _ hf,rfl⟩
  ·split
   ·exact⟨hd,closeR_may _ hf,rfl⟩
   ·split
    ·exact⟨hd,trimR_may _ hf,rfl⟩
    ·split
     ·exact⟨hd,hf,rfl⟩
     ·rename_i ht
      obtain⟨R1,R2,R3,hR⟩:∃ R1 R2 R3,applyR d.docs o d.feed.total=(R1,R2,R3):=⟨_,_,_,rfl⟩
      obtain⟨h1,_,h3,h4,h5,_⟩:=applyR_ok o _ hd hR
      rw[hR]
      refine⟨h1,?_,rfl⟩
      show mayF (addR d.feed R3)=true
      rw[(add_ok hf h3 h4 (by omega)).2]
      exact addF_may hf h3 h4 (by omega)
theorem depotR_may {d:Depot} (q:Reqn) (h:mayDp d=true):mayDp (depotR d q).1=true:=by
 obtain⟨h1,h2,h3⟩:=mayDp_iff.1 h
 obtain⟨t1,t2,t3⟩:=turnR_may q.op h1 h2
 unfold depotR
 split
 ·exact h
 ·split
  ·exact mayDp_iff.2 ⟨t1,t2,by rw[t3];exact h3⟩
  ·split
   ·exact h
   ·rename_i hn
    refine mayDp_iff.2 ⟨t1,t2,?_⟩
    unfold toldL at hn
    split at hn
    ·cases hn
    ·rename_i hc
     split at hn
     ·cases hn
     ·split at hn
      ·cases hn
      ·split at hn
       ·cases hn
       ·rename_i hf
        exact putL_ok h3 (Classical.not_not.1 hc) fun g e=>hf ⟨g,e⟩
structure FewA (a:Answer):Prop where
 doc:a.doc.length≤20
 docs:a.docs.length≤40∧∀ n∈a.docs,n.doc.length≤20
 news:a.news.length≤60∧∀ c∈a.news,c.doc.length≤20
 keys:a.keys.length≤40
theorem few_ref (e:Int):FewA (refA e):=⟨by simp [refA],by simp [refA],by simp [refA],by simp [refA]⟩
theorem few_small {l:List Ndoc} {a:Answer} (hm:mayD l=true) (h:SmallA l a):FewA a:=by
 obtain⟨m1,m2,m3⟩:=mayD_iff.1 hm
 refine⟨by have:=h.doc;omega,⟨by have:=h.docs.1;omega,fun n hn=>?_⟩,by rw[h.news];simp,by rw[h.keys];simp⟩
 have:=may_len (m2 n (h.docs.2 n hn)).2
 omega
theorem PairK.ext' {a b:PairK}:a=b ↔ a.key=b.key∧a.val=b.val:=by
 obtain⟨k,v⟩:=a;obtain⟨k',v'⟩:=b;simp only [PairK.mk.injEq]
theorem Ndoc.ext' {a b:Ndoc}:a=b ↔ a.key=b.key∧a.doc=b.doc:=by
 obtain⟨k,v⟩:=a;obtain⟨k',v'⟩:=b;simp only [Ndoc.mk.injEq]
open Classical in
noncomputable def sameP (a b:List PairK):Bool:=decide (a=b)
open Classical in
noncomputable def sameNs (a b:List Ndoc):Bool:=decide (a=b)
theorem sameP_len {a b:List PairK} (h:a.length≠b.length):sameP a b=false:=by
 simp only [sameP,decide_eq_false_iff_not];exact fun e=>h (by rw[e])
theorem sameP_at {a b:List PairK} {k:Nat} (h:a[k]?≠b[k]?):sameP a b=false:=by
 simp only [sameP,decide_eq_false_iff_not];exact fun e=>h (by rw[e])
theorem sameP_all {a b:List PairK} (h:a.length=b.length) (k:∀ j,j<a.length→a[j]?=b[j]?):sameP a b=true:=by
 simp only [sameP,decide_eq_true_eq]
 refine List.ext_getElem? fun j=>?_
 by_cases hj:j<a.length
 ·exact k j hj
 ·rw[List.getElem?_eq_none (by omega),List.getElem?_eq_none (by omega)]
theorem sameNs_len {a b:List Ndoc} (h:a.length≠b.length):sameNs a b=false:=by
 simp only [sameNs,decide_eq_false_iff_not];exact fun e=>h (by rw[e])
theorem sameNs_at {a b:List Ndoc} {k:Nat} (h:a[k]?≠b[k]?):sameNs a b=false:=by
 simp only [sameNs,decide_eq_false_iff_not];exact fun e=>h (by rw[e])
theorem sameNs_all {a b:List Ndoc} (h:a.length=b.length) (k:∀ j,j<a.length→a[j]?=b[j]?):sameNs a b=true:=by
 simp only [sameNs,decide_eq_true_eq]
 refine List.ext_getElem? fun j=>?_
 by_cases hj:j<a.length
 ·exact k j hj
 ·rw[List.getElem?_eq_none (by omega),List.getElem?_eq_none (by omega)]
open Go Go.Proofs.Tryz
set_option maxRecDepth 100000
theorem cnum_fn (O:Opq) (n:Int):Fn prog 205 [.int .i64 n] [] [.agg ((numC n).en O)] []:=by
 have h0:O.o Cels.enc []=[]:=by rw[O.h,Cels.enc]
 refine go (fn:=Proofs.Tryz.f205) (n:=4) (rv:=[ResultVar.cell 2 253]) rfl (by decide) rfl (by decide +kernel) rfl rfl (by simp) fun F L C=>?_
 cbv
 (repeat' first|(refine Na ?_ fun _ _=>?_;(focus lia);cbv)|(refine Nl fun _ _ hq=>?_;(try simp only [lenS] at hq);cbv)|(refine Nm fun _ _=>?_;cbv)|(refine Br.t ?_ ?_;(focus first|assumption|lia);cbv)|(refine Br.f ?_ ?_;(focus first|assumption|lia);cbv)|(refine Br.mk (fun _=>?_) (fun _=>?_)<;>cbv)|(refine Need.mk ?_ ?_;rotate_left;cbv)|(refine R0 ?_;cbv))
 exact⟨h0,trivial⟩
theorem ctext_fn (O:Opq) (s:ByteArray):Fn prog 249 [.str s] [] [.agg ((textC s).en O)] []:=by
 have h0:O.o Cels.enc []=[]:=by rw[O.h,Cels.enc]
 refine go (fn:=Proofs.Tryz.f249) (n:=4) (rv:=[ResultVar.cell 2 253]) rfl (by decide) rfl (by decide +kernel) rfl rfl (by simp) fun F L C=>?_
 cbv
 (repeat' first|(refine Na ?_ fun _ _=>?_;(focus lia);cbv)|(refine Nl fun _ _ hq=>?_;(try simp only [lenS] at hq);cbv)|(refine Nm fun _ _=>?_;cbv)|(refine Br.t ?_ ?_;(focus first|assumption|lia);cbv)|(refine Br.f ?_ ?_;(focus first|assumption|lia);cbv)|(refine Br.mk (fun _=>?_) (fun _=>?_)<;>cbv)|(refine Need.mk ?_ ?_;rotate_left;cbv)|(refine R0 ?_;cbv))
 exact⟨h0,trivial⟩
theorem clist0_fn (r:List (List PV)) (hl:r.length≤1099511627):Fn prog 211 [.sl true 0 false 4 r] [] [.agg [.int .i64 3,.int .i64 0,.str ByteArray.empty,.sl false 0 false 4 r]] []:=by
 refine go (fn:=Proofs.Tryz.f211) (n:=6) (rv:=[ResultVar.cell 2 253]) rfl (by decide) rfl (by decide +kernel) rfl rfl (by simp) fun F L C=>?_
 cbv
 (repeat' first|(refine Na ?_ fun _ _=>?_;(focus lia);cbv)|(refine RetThen.mk [] [448] ?_;cbv)|(refine Nl fun _ _ hq=>?_;(try simp only [lenS] at hq);cbv)|(refine Nm fun _ _=>?_;cbv)|(refine Br.t ?_ ?_;(focus first|assumption|lia);cbv)|(refine Br.f ?_ ?_;(focus first|assumption|lia);cbv)|(refine Br.mk (fun _=>?_) (fun _=>?_)<;>cbv)|(refine Need.mk ?_ ?_;rotate_left;cbv)|(refine R0 ?_;cbv))
 ·refine⟨.of_eq ?_,trivial⟩
  subst_vars;rfl
 ·have:([]:List (List PV)).length=0:=rfl
  lia
theorem clist_fn (nn:Nat) (full:Bool) (r:List (List PV)) (hl:r.length≤1099511627):Fn prog 211 [.sl true nn full 4 r] [] [.agg [.int .i64 3,.int .i64 0,.str ByteArray.empty,.sl false 0 false 4 r]] [] :=
 (clist0_fn r hl).wkA (.cons (.bor rfl (.refl _)) .nil)
theorem value_fn (O:Opq) (v:Val):Fn prog 263 [.agg v.enc] [] [.agg ((O.o valC v).en O)] []:=by
 have h1:v.kind=1→O.o valC v=numC v.num:=fun h=>by rw[O.h,valC,if_pos h]
 have h2:v.kind=2→O.o valC v=textC v.text:=fun h=>by rw[O.h,valC,if_neg (by omega),if_pos h]
 have h3:v.kind≠1→v.kind≠2→O.o valC v=listC [numC v.re,numC v.im]:=fun h g=>by rw[O.h,valC,if_neg h,if_neg g]
 obtain⟨w,hw⟩:∃ w,w=O.o valC v:=⟨_,rfl⟩
 rw[← hw] at h1 h2 h3 ⊢
 refine go (fn:=Proofs.Tryz.f263) (n:=24) (rv:=[ResultVar.cell 2 253]) rfl (by decide) rfl (by decide +kernel) rfl rfl (by simp) fun F L C=>?_
 cbv
 (repeat' first|(refine Na ?_ fun _ _=>?_;(focus lia);cbv)|(refine CallThen.mk _ _ (C.fn (cnum_fn O _)) ?_;cbv)|(refine CallThen.mk _ _ (C.fn (ctext_fn O _)) ?_;cbv)|(refine CallThen.mk _ _ (C.fn (clist_fn _ _ _ (by simp))) ?_;cbv)|(refine Nl fun _ _ hq=>?_;(try simp only [lenS] at hq);cbv)|(refine Nm fun _ _=>?_;cbv)|(refine Br.t ?_ ?_;(focus first|assumption|lia);cbv)|(refine Br.f ?_ ?_;(focus first|assumption|lia);cbv)|(refine Br.mk (fun _=>?_) (fun _=>?_)<;>cbv)|(refine Need.mk ?_ ?_;rotate_left;cbv)|(refine R0 ?_;cbv))
 ·rename_i h;rw[h1 h];exact⟨rfl,rfl,rfl,.refl _,trivial⟩
 ·rename_i h;rw[h2 h];exact⟨rfl,rfl,rfl,.refl _,trivial⟩
 ·rename_i g h;rw[h3 g h]
  refine⟨rfl,rfl,rfl,.of_eq ?_,trivial⟩
  simp only [O.h]
  simp only [listC,numC,Cel.list,Cels.enc,Cel.enc,O.h]
  rfl
theorem deep_fn (O:Opq):∀ (n:Nat) (c:Cel),n≤100→(∀ e:Cel,e.size≤c.size→e.list.length≤1099511627776)→Fn prog 289 [.agg c.enc,.int .i64 n] [] [.bool (O.o (deepN n) c)] []
 | 0,.mk k m t l,_,_=>by
  have hq:O.o (deepN 0) (.mk k m t l)=true:=by rw[O.h];rfl
  obtain⟨r,er⟩:∃ r,r=Cels.enc l:=⟨_,rfl⟩
  rw[hq,show Cel.enc (.mk k m t l)=[.int .i64 k,.int .i64 m,.str t,.sl false 0 false 4 r] by rw[Cel.enc,er]]
  refine go (fn:=Proofs.Tryz.f289) (n:=19) (rv:=[ResultVar.tmp 4]) rfl (by decide) rfl (by decide +kernel) rfl rfl (by simp) fun F L C=>?_
  cbv
  (repeat' first|(refine Na ?_ fun _ _=>?_;(focus lia);cbv)|(refine Nl fun _ _ hq=>?_;(try simp only [lenS] at hq);cbv)|(refine Nm fun _ _=>?_;cbv)|(refine Br.t ?_ ?_;(focus first|assumption|lia);cbv)|(refine Br.f ?_ ?_;(focus first|assumption|lia);cbv)|(refine Br.mk (fun _=>?_) (fun _=>?_)<;>cbv)|(refine Need.mk ?_ ?_;rotate_left;cbv)|(refine R0 ?_;cbv))
 | n+1,.mk k m t l,hn,hb=>by
  have hl1:=Cels.enc_len l
  have ih:=fun(e:Cel) (he:e∈l)=>deep_fn O n e (by omega) fun g hg=>hb g (by have:=Cels.size_mem he;rw[Cel.size];omega)
  have hll:l.length≤1099511627776:=hb (.mk k m t l) (Nat.le_refl _)
  have hq:O.o (deepN (n+1)) (.mk k m t l)=l.any (deepN n):=by rw[O.h];rfl
  obtain⟨Q,eQ⟩:∃ Q,Q=l.any (deepN n):=⟨_,rfl⟩
  rw[hq,← eQ]
  obtain⟨r,er⟩:∃ r,r=Cels.enc l:=⟨_,rfl⟩
  rw[show Cel.enc (.mk k m t l)=[.int .i64 k,.int .i64 m,.str t,.sl false 0 false 4 r] by rw[Cel.enc,er]]
  rw[← er] at hl1
  obtain⟨N,hN⟩:∃ N:Nat,N=l.length:=⟨_,rfl⟩
  obtain⟨z,hz⟩:∃ z:Nat,z=0:=⟨_,rfl⟩
  obtain⟨v,hv⟩:∃ v:Int,v=((n+1:Nat):Int):=⟨_,rfl⟩
  rw[← hv]
  refine go (fn:=Proofs.Tryz.f289) (n:=19) (rv:=[ResultVar.tmp 4]) rfl (by decide) rfl (by decide +kernel) rfl rfl (by simp) fun F L C=>?_
  cbv
  (repeat' first|(refine Na ?_ fun _ _=>?_;(focus lia);cbv)|(refine Nl fun _ _ hq=>?_;(try simp only [lenS] at hq);cbv)|(refine Nm fun _ _=>?_;cbv)|(refine Br.t ?_ ?_;(focus first|assumption|lia);cbv)|(refine Br.f ?_ ?_;(focus first|assumption|lia);cbv)|(refine Br.mk (fun _=>?_) (fun _=>?_)<;>cbv)|(refine Need.mk ?_ ?_;rotate_left;cbv)|(refine R0 ?_;cbv))
  all_goals try(clear ih hb er eQ;lia)
  refine LoopThen.mk (C.loopAt (ι:=Nat) [(4,4),(6,6),(12,20)] (fun i=>[(4,.bool false),(12,.int .i64 i)]) (fun _=>[(256,.box [.int .i64 k,.int .i64 m,.str t,.sl false 0 false 4 r])])
   (fun i=>i≤l.length∧∀ (j:Nat) y,j<i→l[j]?=some y→deepN n y=false) (fun i=>N-i) (by decide +kernel) (Start.mk z [] [] ⟨by lia,fun j y hj=>by omega⟩ (by cbv;(repeat' apply And.intro)<;>first|exact True.intro|exact WkR.refl _|rfl|lia)) ?_)
  intro i g
  cbv
  have g1:i≤l.length:=g.1
  have g2:=g.2
  clear g
  by_cases hi:i<l.length
  ·obtain⟨x,hx⟩:∃ x,l[i]?=some x:=⟨l[i],by simp [hi]⟩
   have rx:r[i]?=some x.enc:=by rw[er,Cels.enc_map,List.getElem?_map,hx];rfl
   have hc:=ih x (List.mem_of_getElem? hx)
   have hyes:O.o (deepN n) x=true→Q=true:=fun h=>by rw[eQ,List.any_eq_true];exact⟨x,List.mem_of_getElem? hx,by rwa [O.h] at h⟩
   have hst:O.o (deepN n) x=false→∀ (j:Nat) y,j<i+1→l[j]?=some y→deepN n y=false:=fun h j y hj hy=>by
    by_cases ej:j=i
    ·subst ej;rw[hx] at hy;cases hy;rwa [O.h] at h
    ·exact g2 j y (by omega) hy
   have hc:=fun {w:Int} (hw:w=n)=>(show Fn prog 289 [.agg x.enc,.int .i64 w] [] [.bool (O.o (deepN n) x)] [] by rw[hw];exact hc)
   obtain⟨B,eB⟩:∃ B,B=O.o (deepN n) x:=⟨_,rfl⟩
   rw[← eB] at hc hyes hst
   obtain⟨kx,mx,tx,lx⟩:=x
   obtain⟨sx,esx⟩:∃ e,e=Cels.enc lx:=⟨_,rfl⟩
   rw[show Cel.enc (.mk kx mx tx lx)=[.int .i64 kx,.int .i64 mx,.str tx,.sl false 0 false 4 sx] by rw[Cel.enc,esx]] at rx hc
   clear ih hb er g2 eQ
   (repeat' first|(refine Na ?_ fun _ _=>?_;(focus lia);cbv)|(refine Ex.at [.int .i64 kx,.int .i64 mx,.str tx,.sl false 0 false 4 sx] ⟨by clear rx hst hyes hx hc;lia,rx⟩ ?_;cbv)|(refine CallThen.bool (C.fn (hc (by clear rx hst hyes hx;lia))) (fun _=>?_) (fun _=>?_)<;>cbv)|(refine Back.up [] [] ?_ ?_ fun _ _=>?_;rotate_left 2;cbv;refine And.intro ?_ ?_)|(refine Nl fun _ _ hq=>?_;(try simp only [lenS] at hq);cbv)|(refine Nm fun _ _=>?_;cbv)|(refine Br.t ?_ ?_;(focus first|assumption|lia);cbv)|(refine Br.f ?_ ?_;(focus first|assumption|lia);cbv)|(refine Br.mk (fun _=>?_) (fun _=>?_)<;>cbv)|(refine Need.mk ?_ ?_;rotate_left;cbv)|(refine R0 ?_;cbv))
   all_goals(repeat' apply And.intro)
   all_goals try first
    | exact True.intro
    | exact WkR.refl _
    | (clear rx hst hyes hx hc;lia)
   all_goals first
    | exact hyes (by assumption)
    | exact hst (by assumption)
    | trace_state
  ·(repeat' first|(refine Na ?_ fun _ _=>?_;(focus lia);cbv)|(refine Nl fun _ _ hq=>?_;(try simp only [lenS] at hq);cbv)|(refine Nm fun _ _=>?_;cbv)|(refine Br.t ?_ ?_;(focus first|assumption|lia);cbv)|(refine Br.f ?_ ?_;(focus first|assumption|lia);cbv)|(refine Br.mk (fun _=>?_) (fun _=>?_)<;>cbv)|(refine Need.mk ?_ ?_;rotate_left;cbv)|(refine R0 ?_;cbv))
   all_goals try(clear ih hb er g2 eQ;lia)
   all_goals
    refine⟨?_,trivial⟩
    rw[eQ,List.any_eq_false]
    intro x hx
    obtain⟨j,hj,rfl⟩:=List.getElem_of_mem hx
    simpa using g2 j _ (by omega) (by simp)
end Go.Sym
