/- What is asked again is told again: the theorem of once. -/
import Derived.Test.YthaaoongjcmleaaGreatDoorK27
set_option linter.all false
set_option linter.unusedVariables false
set_option linter.unusedSimpArgs false
namespace Go.Sym
open Go
def idsAt (es:List (PV×PV)) (f:Int→Int):Prop:=∀ c,(mget (.int .i64 c) es).getD (.int .i64 0)=.int .i64 (f c)
def upI (f:Int→Int) (c v:Int):Int→Int:=fun x=>if x=c then v else f x
theorem keyEq_int {k j:IntKind} {a b:Int}:keyEq (.int k a) (.int j b)=decide (a=b):=rfl
theorem mget_mset_int (x y:Int) (v:PV):∀ es:List (PV×PV),mget (.int .i64 x) (mset (.int .i64 y) v es)=if x=y then some v else mget (.int .i64 x) es
 | []=>by
  simp only [mset,mget,keyEq_int,decide_eq_true_eq]
 | (k,w)::r=>by
  have ih:=mget_mset_int x y v r
  simp only [mset]
  by_cases h:keyEq (.int .i64 y) k=true
  ·rw[if_pos h]
   simp only [mget,keyEq_int,decide_eq_true_eq]
   by_cases hx:x=y
   ·rw[if_pos hx,if_pos hx]
   ·rw[if_neg hx,if_neg hx]
    have:keyEq (.int .i64 x) k=false:=by
     cases k<;>simp [keyEq] at h ⊢
     omega
    rw[if_neg (by simp [this])]
  ·rw[if_neg h]
   simp only [mget,ih]
   by_cases hx:x=y
   ·subst hx
    rw[if_neg h,if_pos rfl,if_pos rfl]
   ·rw[if_neg hx,if_neg hx]
theorem idsAt_nil:idsAt [] fun _=>0:=fun _=>rfl
theorem idsAt_set {es:List (PV×PV)} {f:Int→Int} (h:idsAt es f) (c v:Int):idsAt (mset (.int .i64 c) (.int .i64 v) es) (upI f c v):=fun x=>by
 rw[mget_mset_int,upI]
 by_cases hx:x=c
 ·rw[if_pos hx,if_pos hx];rfl
 ·rw[if_neg hx,if_neg hx];exact h x
structure Asked (S:Opn→Prop) (d:Depot) (f:Int→Int) (q:Reqn) (a:Answer):Prop where
 client:1≤q.client∧q.client≤3
 id:1≤q.id∧q.id≤f q.client
 turns:turnsB q.op.kind=true
 light:S q.op
 few:FewA a
 last:q.id=f q.client→a=(lastA d.last q.client).answer
structure Once (S:Opn→Prop) (d:Depot) (f:Int→Int) (qs:List Reqn) (tl:List Answer) (n:Nat):Prop where
 few:DepFew d (4 * n)
 ids:∀ c,0≤f c∧f c≤n
 last:∀ x∈d.last,1≤x.client∧x.client≤3∧x.id=f x.client
 there:∀ c,0<f c→getL d.last c=true
 len:tl.length=qs.length∧qs.length≤n
 asked:∀ (j:Nat) q a,qs[j]?=some q→tl[j]?=some a→Asked S d f q a
theorem once_zero (S:Opn→Prop):Once S zeroD (fun _=>0) [] [] 0 where
 few:=zeroD_few
 ids:=fun _=>by simp
 last:=by simp [zeroD]
 there:=by simp
 len:=by simp
 asked:=by simp
theorem Once.mono {S:Opn→Prop} {d:Depot} {f:Int→Int} {qs:List Reqn} {tl:List Answer} {n:Nat} (h:Once S d f qs tl n):Once S d f qs tl (n+1) where
 few:=⟨h.few.may,Nat.le_trans h.few.chs (by omega),h.few.last⟩
 ids:=fun c=>by have:=h.ids c;omega
 last:=h.last
 there:=h.there
 len:=⟨h.len.1,by have:=h.len.2;omega⟩
 asked:=h.asked
theorem lastA_of {d:Depot} {c:Int} (hs:sortedL d.last) (h:getL d.last c=true):lastA d.last c∈d.last∧(lastA d.last c).client=c:=by
 obtain⟨x,hx,hc⟩:=posL_there hs h
 rw[lastA_at hx]
 exact⟨List.mem_of_getElem? hx,hc⟩
theorem Once.again {S:Opn→Prop} {d:Depot} {f:Int→Int} {qs:List Reqn} {tl:List Answer} {n:Nat} (h:Once S d f qs tl n) (hn:n≤1000) {j:Nat} {q:Reqn} {a:Answer} (hq:qs[j]?=some q) (ha:tl[j]?=some a) :
  depotR d q=(d,if q.id=f q.client then a else refA 8):=by
 have A:=h.asked j q a hq ha
 have hs:=(lastsOk_iff.1 (mayDp_iff.1 h.few.may).2.2).2.2
 have hf:=h.ids q.client
 have hg:=h.there q.client (by have:=A.id;omega)
 obtain⟨hm,hc⟩:=lastA_of hs hg
 have hid:=(h.last _ hm).2.2
 rw[hc] at hid
 have c1:countB q.client=true:=by have:=A.client;simp [countB];omega
 have c2:countB q.id=true:=by have:=A.id;simp [countB];omega
 have ht:toldL d.last q.client q.id=some (if q.id=f q.client then a else refA 8):=by
  unfold toldL
  rw[if_neg (by simp [c1,c2])]
  by_cases e:q.id=f q.client
  ·rw[if_pos ⟨hg,by rw[hid,e]⟩,if_pos e,A.last e]
  ·rw[if_neg (by rw[hid];exact fun k=>e k.2.symm),if_pos ⟨hg,by rw[hid];have:=A.id;omega⟩,if_neg e]
 unfold depotR
 rw[if_neg (by rw[A.turns];simp),if_neg (by have:=A.client;omega),ht]
theorem sorted_len {l:List LastR} (hs:sortedL l) (h:∀ x∈l,1≤x.client∧x.client≤3):l.length≤3:=by
 have key:∀ j,(hj:j<l.length)→(j:Int)+1≤(l[j]).client:=by
  intro j
  induction j with
  | zero=>intro hj;have:=(h _ (List.getElem_mem hj)).1;omega
  | succ j ih =>
   intro hj
   have h1:=ih (by omega)
   have h2:=sortedL_lt hs (i:=j) (j:=j+1) (by omega) (List.getElem?_eq_getElem (by omega)) (List.getElem?_eq_getElem hj)
   omega
 apply Nat.le_of_not_lt
 intro k
 have h1:=key 3 (by omega)
 have h2:=(h _ (List.getElem_mem (show 3<l.length by omega))).2
 omega
theorem getL_put {l:List LastR} {x:LastR} (hs:sortedL l) (c:Int):getL (putL l x) c=(getL l c || decide (x.client=c)):=by
 cases g:getL l x.client
 ·rw[putL_ins g,insK]
  simp only [getL,List.any_append,List.any_cons,hasL]
  have:(l.any fun y=>decide (y.client=c))=((l.take (posL l x.client)).any (fun y=>decide (y.client=c)) || (l.drop (posL l x.client)).any fun y=>decide (y.client=c)):=by
   rw[← List.any_append,List.take_append_drop]
  have e:(hasL c)=fun y:LastR=>decide (y.client=c):=rfl
  rw[e,this]
  cases (l.take (posL l x.client)).any fun y=>decide (y.client=c)<;>cases (l.drop (posL l x.client)).any fun y=>decide (y.client=c)<;>cases decide (x.client=c)<;>rfl
 ·obtain⟨z,hz,he⟩:=posL_there hs g
  rw[putL_set g]
  have hm:(l.set (posL l x.client) x).map LastR.client=l.map LastR.client:=by
   apply List.ext_getElem?
   intro j
   rw[List.getElem?_map,List.getElem?_map,List.getElem?_set]
   split
   ·rename_i h;subst h
    split
    ·rw[hz];simp [he]
    ·rename_i h;rw[List.getElem?_eq_none (by omega)] at hz;cases hz
   ·rfl
  have hgm:∀ m:List LastR,getL m c=(m.map LastR.client).any fun y=>decide (y=c):=fun m=>by rw[List.any_map];rfl
  rw[hgm,hm,← hgm]
  by_cases hc:x.client=c
  ·subst hc;rw[g];rfl
  ·simp [hc]
theorem lastA_put {l:List LastR} {x:LastR} (hs:sortedL l):lastA (putL l x) x.client=x:=by
 have hg:getL (putL l x) x.client=true:=by rw[getL_put hs];simp
 obtain⟨y,hy,hc⟩:=posL_there (putL_sorted hs) hg
 rw[lastA_at hy]
 cases g:getL l x.client
 ·rw[putL_ins g] at hy
  rcases putL_mem (x:=x) (y:=y) (l:=l) (by rw[putL_ins g];exact List.mem_of_getElem? hy) with h|h
  ·exact h
  ·exact absurd hc (getL_no g y h)
 ·-- one alone has the number
  have hx:x∈putL l x:=by
   rw[putL_set g]
   obtain⟨z,hz,_⟩:=posL_there hs g
   exact List.mem_set (List.getElem?_eq_some_iff.1 hz).1 x
  obtain⟨i,hi,hix⟩:=List.getElem_of_mem hx
  have hsp:=putL_sorted (x:=x) hs
  rcases Nat.lt_trichotomy i (posL (putL l x) x.client) with k|k|k
  ·have:=sortedL_lt hsp k (List.getElem?_eq_getElem hi) hy
   rw[hix] at this;omega
  ·subst k
   rw[List.getElem?_eq_getElem hi] at hy
   rw[← Option.some.inj hy,hix]
  ·have:=sortedL_lt hsp k hy (List.getElem?_eq_getElem hi)
   rw[hix] at this;omega
theorem lastA_put_ne {l:List LastR} {x:LastR} {c:Int} (hs:sortedL l) (hc:c≠x.client) (hg:getL l c=true):lastA (putL l x) c=lastA l c:=by
 have hg2:getL (putL l x) c=true:=by rw[getL_put hs,hg];rfl
 obtain⟨y,hy,hyc⟩:=posL_there (putL_sorted (x:=x) hs) hg2
 obtain⟨z,hz,hzc⟩:=posL_there hs hg
 rw[lastA_at hy,lastA_at hz]
 rcases putL_mem (List.mem_of_getElem? hy) with h|h
 ·rw[h] at hyc;exact absurd hyc.symm hc
 ·obtain⟨i,hi,hix⟩:=List.getElem_of_mem h
  rcases Nat.lt_trichotomy i (posL l c) with k|k|k
  ·have:=sortedL_lt hs k (List.getElem?_eq_getElem hi) hz
   rw[hix] at this;omega
  ·subst k
   rw[List.getElem?_eq_getElem hi] at hz
   rw[← Option.some.inj hz,hix]
  ·have:=sortedL_lt hs k hz (List.getElem?_eq_getElem hi)
   rw[hix] at this;omega
theorem Once.next {S:Opn→Prop} {d:Depot} {f:Int→Int} {qs:List Reqn} {tl:List Answer} {n:Nat} (h:Once S d f qs tl n) (hn:n≤1000) {q:Reqn} (hc:1≤q.client∧q.client≤3) (hi:q.id=f q.client+1) (ht:turnsB q.op.kind=true) (hl:S q.op)
  {D:Depot} {A:Answer} (hR:depotR d q=(D,A)):Once S D (upI f q.client (f q.client+1)) (qs++[q]) (tl++[A]) (n+1):=by
 have hmay:=mayDp_iff.1 h.few.may
 have hs:=(lastsOk_iff.1 hmay.2.2).2.2
 have hln:=sorted_len hs fun x hx=>⟨(h.last x hx).1,(h.last x hx).2.1⟩
 have hf:=h.ids q.client
 have c1:countB q.client=true:=by simp [countB];omega
 have c2:countB q.id=true:=by simp [countB];omega
 have hid:getL d.last q.client=true→(lastA d.last q.client).id=f q.client:=fun hg=>by
  obtain⟨hm,hc⟩:=lastA_of hs hg
  have:=(h.last _ hm).2.2
  rwa [hc] at this
 have htold:toldL d.last q.client q.id=none:=by
  unfold toldL
  rw[if_neg (by simp [c1,c2]),if_neg (fun k=>by have:=hid k.1;omega),if_neg (fun k=>by have:=hid k.1;omega),if_neg (fun k=>by omega)]
 have hR':=hR
 unfold depotR at hR'
 rw[if_neg (by rw[ht];simp),if_neg (by omega),htold] at hR'
 simp only [Prod.mk.injEq] at hR'
 obtain⟨rfl,rfl⟩:=hR'
 have hlast:=(turnR_may q.op hmay.1 hmay.2.1).2.2
 have hfew:=depotR_few q h.few
 rw[hR] at hfew
 have hup:∀ c,upI f q.client (f q.client+1) c=if c=q.client then f q.client+1 else f c:=fun c=>rfl
 refine { few:=?_,ids:=fun c=>?_,last:=fun x hx=>?_,there:=fun c hc'=>?_,len:=?_,asked:=fun j q' a' hq ha=>?_ }
 ·rw[show 4 * (n+1)=4 * n+4 by omega];exact hfew.1
 ·rw[hup];have:=h.ids c;split<;>omega
 ·rcases putL_mem hx with rfl|hx'
  ·exact⟨hc.1,hc.2,by rw[hup,if_pos rfl,hi]⟩
  ·have hx2:=h.last x hx'
   refine⟨hx2.1,hx2.2.1,?_⟩
   by_cases e:x.client=q.client
   ·-- the elder one is put away
    have hg:getL d.last q.client=true:=List.any_eq_true.2 ⟨x,hx',by simp [hasL,e]⟩
    have hA:=lastA_put (l:=d.last) (x:=⟨q.client,q.id,(turnR d q.op).2⟩) hs
    have hsp:=putL_sorted (x:=⟨q.client,q.id,(turnR d q.op).2⟩) hs
    have hg2:getL (putL d.last ⟨q.client,q.id,(turnR d q.op).2⟩) q.client=true:=by rw[getL_put hs];simp
    obtain⟨y,hy,hyc⟩:=posL_there hsp hg2
    rw[lastA_at hy] at hA
    obtain⟨i,hi',hix⟩:=List.getElem_of_mem hx
    have:x=y:=by
     rcases Nat.lt_trichotomy i (posL (putL d.last ⟨q.client,q.id,(turnR d q.op).2⟩) q.client) with k|k|k
     ·have:=sortedL_lt hsp k (List.getElem?_eq_getElem hi') hy
      rw[hix] at this;omega
     ·subst k
      rw[List.getElem?_eq_getElem hi'] at hy
      rw[← Option.some.inj hy,hix]
     ·have:=sortedL_lt hsp k hy (List.getElem?_eq_getElem hi')
      rw[hix] at this;omega
    rw[this,hA,hup,if_pos rfl,hi]
   ·rw[hup,if_neg e];exact hx2.2.2
 ·rw[hup] at hc'
  show getL (putL d.last _) c=true
  rw[getL_put hs]
  split at hc'
  ·rename_i e;subst e;simp
  ·rw[h.there c hc'];rfl
 ·simp [h.len.1];exact h.len.2
 ·by_cases hj:j<qs.length
  ·rw[List.getElem?_append_left hj] at hq
   rw[List.getElem?_append_left (by rw[h.len.1];exact hj)] at ha
   have A:=h.asked j q' a' hq ha
   refine { A with id:=⟨A.id.1,?_⟩,last:=fun e=>?_ }
   ·rw[hup];have:=A.id.2;split
    ·rename_i e;rw[e] at this;omega
    ·exact this
   ·rw[hup] at e
    split at e
    ·rename_i k;have:=A.id.2;rw[k] at this;omega
    ·rename_i k
     rw[A.last e]
     have hg:=h.there q'.client (by have:=A.id;omega)
     show _=(lastA (putL d.last _) q'.client).answer
     rw[lastA_put_ne hs k hg]
  ·have hj':j=qs.length:=by
    have:=(List.getElem?_eq_some_iff.1 hq).1
    simp at this;omega
   subst hj'
   rw[List.getElem?_concat_length] at hq
   rw[← h.len.1,List.getElem?_concat_length] at ha
   obtain rfl:=Option.some.inj hq
   obtain rfl:=Option.some.inj ha
   exact⟨hc,⟨by omega,by rw[hup,if_pos rfl,hi];exact Int.le_refl _⟩,ht,hl,hfew.2,fun _=>by
    show _=(lastA (putL d.last _) q.client).answer
    rw[lastA_put (x:=⟨q.client,q.id,(turnR d q.op).2⟩) hs]⟩
end Go.Sym
