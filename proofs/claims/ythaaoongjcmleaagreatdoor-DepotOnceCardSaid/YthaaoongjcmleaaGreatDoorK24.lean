/- Depots: one more that asked; sought; done. -/
import Derived.Test.YthaaoongjcmleaaGreatDoorK20
import Derived.Test.YthaaoongjcmleaaGreatDoorK22
import Derived.Test.YthaaoongjcmleaaGreatDoorK23
set_option linter.all false
set_option linter.unusedVariables false
set_option linter.unusedSimpArgs false
namespace Go.Sym
open Go Go.Proofs.Tryz
set_option maxRecDepth 100000
theorem Lasts.enc_len (O:Opq) (l:List LastR):(Lasts.enc O l).length=l.length:=by rw[Lasts.enc,List.length_map]
def insRow (rows:List (List PV)) (i:Int) (r:List PV):List (List PV):=rows.take i.toNat++[r]++rows.drop i.toNat
set_option maxHeartbeats 4000000 in
theorem insertL_fn (O:Opq) (d:List LastR) (i:Int) (f:List PV) (v:List (List PV)) (hv:v=[f]) (hd:d.length≤1099511627) (h0:0≤i) (h1:i≤d.length):Fn prog 55 [.ref 0,.int .i64 i,.ref 1] [.arr 0 none 10 (O.o (Lasts.enc O) d),.arr 2 none 10 v]
  [.ref 2] [.dead,.dead,.arr 0 none 10 (O.o insRow (O.o (Lasts.enc O) d) i f)]:=by
 have hlen:=Lasts.len O d
 have hvl:v.length=1:=by rw[hv];rfl
 have hvn:v≠[]:=by rw[hv];simp
 have enc_ins:insRow (Lasts.enc O d) i f=(Lasts.enc O d).take i.toNat++[f]++(Lasts.enc O d).drop i.toNat:=rfl
 refine .inl (Fn.capAny fun c hc=>?_)
 refine goB (fn:=Proofs.Tryz.f55) (n:=92) (rv:=[ResultVar.tmp 6]) rfl (by decide) rfl (by decide +kernel) rfl rfl (by simp) fun F L C=>?_
 cbv
 (repeat' first|(refine Na ?_ fun _ _=>?_;(focus lia);cbv)|(refine RetThen.mk [(2,.loc 1728)] [] ?_;cbv;refine⟨?_,trivial⟩)|(refine RetThen.mk [(2,.loc 2688)] [] ?_;cbv;refine⟨?_,trivial⟩)|(refine RetThen.mk [(2,.loc 3968)] [] ?_;cbv;refine⟨?_,trivial⟩)|(refine CallThen.mk _ _ (C.fn (overlaps_fn (fn:=Proofs.Tryz.f101) (tS:=45) (tR:=4) (e:=88) (sz:=10) rfl (by decide) rfl (by kernel_rfl) (by kernel_rfl) rfl (fun w=>rfl) (by decide) (by decide) hvn (by lia))) ?_;cbv)|(refine Nl fun _ _ hq=>?_;(try simp only [lenS] at hq);cbv)|(refine Nm fun _ _=>?_;cbv)|(refine Br.t ?_ ?_;(focus first|assumption|lia);cbv)|(refine Br.f ?_ ?_;(focus first|assumption|lia);cbv)|(refine Br.mk (fun _=>?_) (fun _=>?_)<;>cbv)|(refine Need.mk ?_ ?_;rotate_left;cbv)|(refine R0 ?_;cbv))
 all_goals try first
  | lia
  | (dsimp only;lia)
 ·rename_i B eB
  rw[eB]
  refine WkR.of_eq ?_
  simp only [O.h] at *
  rw[enc_ins,show i.toNat=d.length by lia,List.take_of_length_le (by lia),List.drop_of_length_le (by lia),List.append_nil,hv]
 ·rename_i n1 e1 n2 e2 m em L eL hne s1 es1 cc ecc hlt t1 et1 s2 es2 s3 es3 Z eZ hZ A eA hA B eB hB i2 ei2 k2 ek2 CC eC hC w1 ew1 s4 es4 i3 ei3 k3 ek3 i4 ei4 k4 ek4 Y eY hY D eD w2 ew2
  refine WkR.of_eq ?_
  have qm:m=1:=by lia
  have qL:L=d.length:=by lia
  have qi:i.toNat<d.length:=by lia
  have q1:t1=i.toNat:=by lia
  have q2:i2=i.toNat:=by lia
  have qz:Z.length=d.length+1-i.toNat:=by clear hA hB hC hY hq;lia
  have qA:A.length=i.toNat:=by clear hB hC hY hq;lia
  have qB:B.length=d.length+1:=by clear hC hY hq;lia
  clear hA hB hC hY hq
  have q3:k2=d.length+1-i.toNat:=by lia
  have q4:i2+min v.length k2=i.toNat+1:=by lia
  have q5:i3=i.toNat+1:=by lia
  have qC:CC.length=d.length+1:=by rw[eC,List.length_append,List.length_append,List.length_take,List.length_take,List.length_drop];lia
  have q6:k3=d.length-i.toNat:=by lia
  have q7:i4=i.toNat:=by lia
  have q8:k4=d.length-i.toNat:=by lia
  have qY:Y.length=d.length-i.toNat:=by rw[eY,List.length_take,List.length_drop];lia
  have q9:i3+min Y.length k3=d.length+1:=by lia
  rw[q4,q2,q3] at eC
  rw[q9,q5,q6] at eD
  rw[q7,q8] at eY
  rw[q1] at eA
  simp only [O.h,List.drop_zero] at *
  rw[enc_ins,← hv]
  symm
  refine ins2 (Lasts.enc_len O d) qi hvl qz (r1:=B) (r2:=CC) (by rw[eB,eA]) eC ?_
  rw[eD,eY,List.take_take,Nat.min_self]
 ·rename_i n1 e1 n2 e2 m em L eL hne s1 es1 cc ecc hge s2 es2 B eB hB s3 es3 i2 ei2 k2 ek2 s4 es4 i3 ei3 k3 ek3 i4 ei4 k4 ek4 Y eY hY CC eC hC w1 ew1 i5 ei5 k5 ek5 D eD w2 ew2
  refine WkR.of_eq ?_
  have qm:m=1:=by lia
  have qL:L=d.length:=by lia
  have qi:i.toNat<d.length:=by lia
  have qB:B.length=d.length+1:=by clear hC hY hq;lia
  clear hC hY hq
  have q5:i3=i.toNat+1:=by lia
  have q6:k3=d.length-i.toNat:=by lia
  have q7:i4=i.toNat:=by lia
  have q8:k4=d.length+1-i.toNat:=by lia
  have qY:Y.length=d.length+1-i.toNat:=by rw[eY,List.length_take,List.length_drop];lia
  have q9:i3+min Y.length k3=d.length+1:=by lia
  have q2:i5=i.toNat:=by lia
  have qC:CC.length=d.length+1:=by rw[eC,List.length_append,List.length_append,List.length_take,List.length_take,List.length_drop];lia
  have q3:k5=d.length+1-i.toNat:=by lia
  have q4:i5+min v.length k5=i.toNat+1:=by lia
  have qz:s2.toNat-d.length=1:=by lia
  rw[q9,q5,q6] at eC
  rw[q4,q2,q3] at eD
  rw[q7,q8] at eY
  rw[hlen,qz] at eB
  simp only [O.h] at *
  rw[enc_ins,← hv]
  symm
  exact ins3 (Lasts.enc_len O d) qi hvl (by simp) eB (by rw[eC,eY]) eD
theorem dcmp_fn (O:Opq) (x:LastR) (c v:Int) (hv:v=IntKind.i64.wrap (x.client-c)):Fn prog 52 [.agg (x.enc O),.int .i64 c] [] [.int .i64 v] []:=by
 obtain⟨xc,xi,⟨ac,ah,ad,ads,ans,an,at',ak⟩⟩:=x
 replace hv:v=IntKind.i64.wrap (xc-c):=hv
 refine go (fn:=Proofs.Tryz.f52) (n:=7) (rv:=[ResultVar.tmp 4]) rfl (by decide) rfl (by decide +kernel) rfl rfl (by simp) fun F L C=>?_
 cbv
 (repeat' first|(refine Nm fun n hn=>?_;obtain rfl:n=v:=hn.trans hv.symm;cbv)|(refine Na ?_ fun _ _=>?_;(focus lia);cbv)|(refine Nl fun _ _ hq=>?_;(try simp only [lenS] at hq);cbv)|(refine Nm fun _ _=>?_;cbv)|(refine Br.t ?_ ?_;(focus first|assumption|lia);cbv)|(refine Br.f ?_ ?_;(focus first|assumption|lia);cbv)|(refine Br.mk (fun _=>?_) (fun _=>?_)<;>cbv)|(refine Need.mk ?_ ?_;rotate_left;cbv)|(refine R0 ?_;cbv))
 all_goals first
  | exact⟨rfl,trivial⟩
  | trace_state
set_option maxHeartbeats 2000000 in
theorem bsearchL_fn (O:Opq) (l:List LastR) (c:Int) (hl:l.length≤1099511627776):Fn prog 51 [.sl true 0 false 10 (O.o (Lasts.enc O) l),.int .i64 c,.fn 52 [] []] [] [.int .i64 (O.o seekZ l c),.bool (O.o seekB l c)] []:=by
 have hlen:=Lasts.len O l
 have hZ:O.o seekZ l c=(O.o seekI l c:Nat):=by rw[O.h,O.h];rfl
 have hB:O.o seekB l c=decide (O.o seekI l c<l.length∧cmpL l c (O.o seekI l c)=0):=by rw[O.h,O.h];rfl
 have hT:bsI (cmpL l c) 0 l.length=O.o seekI l c:=by rw[O.h];rfl
 obtain⟨T,eT⟩:∃ T,T=O.o seekI l c:=⟨_,rfl⟩
 obtain⟨Z,eZ⟩:∃ T,T=O.o seekZ l c:=⟨_,rfl⟩
 obtain⟨B,eB⟩:∃ T,T=O.o seekB l c:=⟨_,rfl⟩
 rw[← eT] at hZ hB hT
 rw[← eZ] at hZ ⊢
 rw[← eB] at hB ⊢
 clear eT eZ eB
 obtain⟨N,hN⟩:∃ N:Nat,N=l.length:=⟨_,rfl⟩
 obtain⟨z,hz⟩:∃ z:Nat,z=0:=⟨_,rfl⟩
 refine go (fn:=Proofs.Tryz.f51) (n:=46) (rv:=[ResultVar.tmp 6,ResultVar.tmp 7]) rfl (by decide) rfl (by decide +kernel) rfl rfl (by simp) fun F L C=>?_
 cbv
 (repeat' first|(refine Na ?_ fun _ _=>?_;(focus lia);cbv)|(refine Nl fun _ _ hq=>?_;(try simp only [lenS] at hq);cbv)|(refine Nm fun _ _=>?_;cbv)|(refine Br.t ?_ ?_;(focus first|assumption|lia);cbv)|(refine Br.f ?_ ?_;(focus first|assumption|lia);cbv)|(refine Br.mk (fun _=>?_) (fun _=>?_)<;>cbv)|(refine Need.mk ?_ ?_;rotate_left;cbv)|(refine R0 ?_;cbv))
 refine LoopThen.mk (C.loopAt (ι:=Nat×Nat) [(9,11),(15,34)] (fun x=>[(9,.int .i64 x.1),(10,.int .i64 x.2)]) (fun _=>[])
  (fun x=>x.1≤x.2∧x.2≤l.length∧bsI (cmpL l c) x.1 x.2=T) (fun x=>x.2-x.1) (by decide +kernel) (Start.mk (z,N) [] [] ⟨by show z≤N;omega,by show N≤l.length;omega,by show bsI _ z N=T;rw[hz,hN];exact hT⟩ (by cbv;(repeat' apply And.intro)<;>first|exact True.intro|exact WkR.refl _|rfl|lia)) ?_)
 intro x g
 cbv
 obtain⟨i,j⟩:=x
 have h1:i≤j:=g.1
 have h2:j≤l.length:=g.2.1
 have h3:bsI (cmpL l c) i j=T:=g.2.2
 clear g hT
 by_cases hij:i<j
 ·obtain⟨h,hh⟩:∃ h,h=(i+j) / 2:=⟨_,rfl⟩
  rw[bsI,if_pos hij,← hh] at h3
  have hh1:i≤h∧h<j:=by omega
  have hh2:2 * h≤i+j∧i+j≤2 * h+1:=by omega
  obtain⟨x,hx⟩:∃ x,l[h]?=some x:=⟨l[h],by simp⟩
  obtain⟨v,hv⟩:∃ v,v=IntKind.i64.wrap (x.client-c):=⟨_,rfl⟩
  have hc:=dcmp_fn O x c v hv
  rw[cmpL_at hx,← hv] at h3
  have h4:v<0→bsI (cmpL l c) (h+1) j=T:=fun e=>by rw[if_pos e] at h3;exact h3
  have h5:¬ v<0→bsI (cmpL l c) i h=T:=fun e=>by rw[if_neg e] at h3;exact h3
  clear h3 hh hB hv
  obtain⟨xc,xi,⟨ac,ah,ad,ads,ans,an,at',ak⟩⟩:=x
  by_cases hv0:v<0
  ·have h4:=h4 hv0
   clear h5
   (repeat' first|(refine Na ?_ fun _ _=>?_;(focus lia);cbv)|(refine Named.u64 ?_ fun _ _=>?_;(focus lia);cbv)|(refine Named.half fun _ _=>?_;cbv)|(refine Ex.known O (LastR.enc O) rfl hx ?_ ?_;(focus lia);cbv)|(refine CallThen.mk _ _ (C.fn (hc)) ?_;cbv)|(refine Back.to (h+1,j) [] [] ?_ fun _ _=>?_;rotate_left;cbv)|(refine Nl fun _ _ hq=>?_;(try simp only [lenS] at hq);cbv)|(refine Nm fun _ _=>?_;cbv)|(refine Br.t ?_ ?_;(focus first|assumption|lia);cbv)|(refine Br.f ?_ ?_;(focus first|assumption|lia);cbv)|(refine Br.mk (fun _=>?_) (fun _=>?_)<;>cbv)|(refine Need.mk ?_ ?_;rotate_left;cbv)|(refine R0 ?_;cbv))
   all_goals try first
    | (clear hx hc h4;lia)
    | exact⟨⟨by show h+1≤j;omega,h2,h4⟩,by show j-(h+1)<j-i;omega⟩
   all_goals first
    | (rename_i y ey;subst ey;(repeat' apply And.intro)<;>first|exact True.intro|exact WkR.refl _|rfl|(dsimp only;clear hx hc h4;lia)|trace_state)
    | trace_state
  ·have h5:=h5 hv0
   clear h4
   (repeat' first|(refine Na ?_ fun _ _=>?_;(focus lia);cbv)|(refine Named.u64 ?_ fun _ _=>?_;(focus lia);cbv)|(refine Named.half fun _ _=>?_;cbv)|(refine Ex.known O (LastR.enc O) rfl hx ?_ ?_;(focus lia);cbv)|(refine CallThen.mk _ _ (C.fn (hc)) ?_;cbv)|(refine Back.to (i,h) [] [] ?_ fun _ _=>?_;rotate_left;cbv)|(refine Nl fun _ _ hq=>?_;(try simp only [lenS] at hq);cbv)|(refine Nm fun _ _=>?_;cbv)|(refine Br.t ?_ ?_;(focus first|assumption|lia);cbv)|(refine Br.f ?_ ?_;(focus first|assumption|lia);cbv)|(refine Br.mk (fun _=>?_) (fun _=>?_)<;>cbv)|(refine Need.mk ?_ ?_;rotate_left;cbv)|(refine R0 ?_;cbv))
   all_goals try first
    | (clear hx hc h5;lia)
    | exact⟨⟨by show i≤h;omega,by show h≤l.length;omega,h5⟩,by show h-i<j-i;omega⟩
   all_goals first
    | (rename_i y ey;subst ey;(repeat' apply And.intro)<;>first|exact True.intro|exact WkR.refl _|rfl|(dsimp only;clear hx hc h5;lia)|trace_state)
    | trace_state
 ·rw[bsI,if_neg hij] at h3
  subst h3
  by_cases hi:i<l.length
  ·obtain⟨x,hx⟩:∃ x,l[i]?=some x:=⟨l[i],by simp [hi]⟩
   obtain⟨v,hv⟩:∃ v,v=IntKind.i64.wrap (x.client-c):=⟨_,rfl⟩
   have hc:=dcmp_fn O x c v hv
   rw[cmpL_at hx,← hv] at hB
   have hb1:v=0→B=true:=fun e=>by rw[hB];simp [hi,e]
   have hb2:v≠0→B=false:=fun e=>by rw[hB];simp [e]
   clear hB hv
   obtain⟨xc,xi,⟨ac,ah,ad,ads,ans,an,at',ak⟩⟩:=x
   (repeat' first|(refine Na ?_ fun _ _=>?_;(focus lia);cbv)|(refine Ex.known O (LastR.enc O) rfl hx ?_ ?_;(focus lia);cbv)|(refine CallThen.mk _ _ (C.fn (hc)) ?_;cbv)|(refine Nl fun _ _ hq=>?_;(try simp only [lenS] at hq);cbv)|(refine Nm fun _ _=>?_;cbv)|(refine Br.t ?_ ?_;(focus first|assumption|lia);cbv)|(refine Br.f ?_ ?_;(focus first|assumption|lia);cbv)|(refine Br.mk (fun _=>?_) (fun _=>?_)<;>cbv)|(refine Need.mk ?_ ?_;rotate_left;cbv)|(refine R0 ?_;cbv))
   all_goals first
    | exact⟨hZ.symm,hb1 (by assumption),trivial⟩
    | exact⟨hZ.symm,hb2 (by assumption),trivial⟩
    | exact⟨hZ,hb1 (by assumption),trivial⟩
    | exact⟨hZ,hb2 (by assumption),trivial⟩
    | (exfalso;clear hx hc hb1 hb2;lia)
    | trace_state
  ·have hb:B=false:=by rw[hB];simp [hi]
   clear hB
   (repeat' first|(refine Na ?_ fun _ _=>?_;(focus lia);cbv)|(refine Nl fun _ _ hq=>?_;(try simp only [lenS] at hq);cbv)|(refine Nm fun _ _=>?_;cbv)|(refine Br.t ?_ ?_;(focus first|assumption|lia);cbv)|(refine Br.f ?_ ?_;(focus first|assumption|lia);cbv)|(refine Br.mk (fun _=>?_) (fun _=>?_)<;>cbv)|(refine Need.mk ?_ ?_;rotate_left;cbv)|(refine R0 ?_;cbv))
   all_goals first
    | exact⟨hZ.symm,hb,trivial⟩
    | exact⟨hZ,hb,trivial⟩
    | (exfalso;lia)
    | trace_state
structure DepIn (d:Depot):Prop where
 may:mayDp d=true
 chs:d.feed.changes.length≤1000
 last:∀ x∈d.last,AnsIn x.answer 1099511627
structure DepGood (O:Opq) (d:Depot):Prop where
 docs:mayD d.docs=true
 feed:mayF d.feed=true
 last:lastsOk d.last=true
 chk:Fn prog 46 [.agg (d.enc O)] [] [.int .i64 0] []
 own:Fn prog 47 [.agg (d.enc O)] [] [.agg [.sl false 0 false 2 (O.o (Nms.enc O) d.docs),.int .i64 d.feed.base,.int .i64 d.feed.total,.sl false 0 false 4 (O.o (Chs.enc O) d.feed.changes),.sl false 0 false 2 (O.o Subs.enc d.feed.subs),.ref 0]] [.arr 0 none 10 (O.o (Lasts.enc O) d.last)]
theorem depGood (O:Opq) {d:Depot} (h:DepIn d):DepGood O d:=by
 obtain⟨m1,m2,m3⟩:=mayDp_iff.1 h.may
 obtain⟨i1,i2,i3,i4,i5,i6⟩:=mayF_in m2 h.chs
 have m:=mayD_iff.1 m1
 have hl:=(lastsOk_iff.1 m3).1
 have hd:∀ n∈d.docs,n.doc.length≤1099511627:=fun n hn=>by have:=may_len (m.2.1 n hn).2;omega
 have k1:=dcheck_fn O d ⟨by omega,hd⟩ ⟨i1.1,by omega,fun c hc=>⟨(i1.2.2 c hc).1,by have:=(i1.2.2 c hc).2;omega⟩⟩ (by omega)
 rw[show O.o depotErr d=0 by rw[O.h];exact depotErr_zero.2 h.may] at k1
 exact⟨m1,m2,m3,k1,down_fn O d ⟨by omega,hd⟩ ⟨i1.1,fun c hc=>(i1.2.2 c hc).2⟩ (by omega) ⟨by omega,h.last⟩⟩
set_option maxHeartbeats 4000000 in
theorem dapply_read (O:Opq) (d:Depot) (q:Reqn) (h:DepIn d) (hs:SmallO q.op 1099511627) (ht:turnsB q.op.kind=false) :
  Fn prog 20 [.agg (d.enc O),.agg (q.en O)] [] [.agg (d.enc O),.agg ((O.o (readsA d) q.op).enc O),.int .i64 0] []:=by
 have G:=depGood O h
 have k1:=G.chk
 have k2:=G.own
 have k3:=dturns_fn O q.op
 rw[show O.o turnsB q.op.kind=false by rw[O.h];exact ht] at k3
 have k4:=dreads_fn O d q.op G.docs G.feed h.chs hs
 obtain⟨A,eA⟩:∃ A,A=O.o (readsA d) q.op:=⟨_,rfl⟩
 rw[← eA] at k4 ⊢
 clear eA G h hs ht
 obtain⟨docs,⟨base,total,chs,subs⟩,l⟩:=d
 obtain⟨qc,qi,⟨kind,key,to,doc,want,has,n,most,ops,ods,ons⟩⟩:=q
 obtain⟨ac,ah,ad,ads,ans,an,at',ak⟩:=A
 refine goM (modeOf 50 [.own]) (fn:=Proofs.Tryz.f20) (n:=143) (rv:=[ResultVar.cell 4 47,ResultVar.cell 5 61,ResultVar.tmp 6]) rfl (by decide) rfl (by decide +kernel) rfl rfl (by simp) fun F L C=>?_
 cbv
 (repeat' first|(refine Na ?_ fun _ _=>?_;(focus lia);cbv)|(refine CallThen.mk _ _ (C.fn (k1)) ?_;cbv)|(refine CallThen.mk _ _ (C.fn (k2)) ?_;cbv)|(refine CallThen.mk _ _ (C.fn (k3)) ?_;cbv)|(refine CallThen.mk _ _ (C.fn (k4)) ?_;cbv)|(refine RetThen.mk [] [1472] ?_;cbv)|(refine Nl fun _ _ hq=>?_;(try simp only [lenS] at hq);cbv)|(refine Nm fun _ _=>?_;cbv)|(refine Br.t ?_ ?_;(focus first|assumption|lia);cbv)|(refine Br.f ?_ ?_;(focus first|assumption|lia);cbv)|(refine Br.mk (fun _=>?_) (fun _=>?_)<;>cbv)|(refine Need.mk ?_ ?_;rotate_left;cbv)|(refine R0 ?_;cbv))
 all_goals(repeat' apply And.intro)
 all_goals first
  | exact True.intro
  | exact WkR.refl _
  | rfl
  | (refine Nm fun _ e=>⟨.of_eq e.symm,?_⟩;cbv;(repeat' apply And.intro)<;>first|exact True.intro|exact WkR.refl _|rfl)
  | trace_state
set_option maxHeartbeats 4000000 in
theorem dapply_zero (O:Opq) (d:Depot) (q:Reqn) (h:DepIn d) (hs:SmallO q.op 1099511627) (ht:turnsB q.op.kind=true) (hc:q.client=0) (D2:List Ndoc) (F2:Feed) (A2:Answer) (hT:turnR d q.op=(⟨D2,F2,d.last⟩,A2)) :
  Fn prog 20 [.agg (d.enc O),.agg (q.en O)] [] [.agg (Depot.enc O ⟨D2,F2,d.last⟩),.agg (A2.enc O),.int .i64 0] []:=by
 have G:=depGood O h
 have k1:=G.chk
 have k2:=G.own
 have k3:=dturns_fn O q.op
 rw[show O.o turnsB q.op.kind=true by rw[O.h];exact ht] at k3
 have k4:=dturn_fn O d q.op G.docs G.feed h.chs hs D2 F2 A2 hT
 clear G h hs ht hT
 obtain⟨docs,⟨base,total,chs,subs⟩,l⟩:=d
 obtain⟨qc,qi,⟨kind,key,to,doc,want,has,n,most,ops,ods,ons⟩⟩:=q
 obtain⟨ac,ah,ad,ads,ans,an,at',ak⟩:=A2
 obtain⟨fb,ft,fc,fs⟩:=F2
 replace hc:qc=0:=hc
 subst hc
 refine goM (modeOf 50 [.own]) (fn:=Proofs.Tryz.f20) (n:=143) (rv:=[ResultVar.cell 4 47,ResultVar.cell 5 61,ResultVar.tmp 6]) rfl (by decide) rfl (by decide +kernel) rfl rfl (by simp) fun F L C=>?_
 cbv
 (repeat' first|(refine Na ?_ fun _ _=>?_;(focus lia);cbv)|(refine CallThen.mk _ _ (C.fn (k1)) ?_;cbv)|(refine CallThen.mk _ _ (C.fn (k2)) ?_;cbv)|(refine CallThen.mk _ _ (C.fn (k3)) ?_;cbv)|(refine CallThen.mk _ _ (C.fn (k4)) ?_;cbv)|(refine RetThen.mk [] [1472] ?_;cbv)|(refine Nl fun _ _ hq=>?_;(try simp only [lenS] at hq);cbv)|(refine Nm fun _ _=>?_;cbv)|(refine Br.t ?_ ?_;(focus first|assumption|lia);cbv)|(refine Br.f ?_ ?_;(focus first|assumption|lia);cbv)|(refine Br.mk (fun _=>?_) (fun _=>?_)<;>cbv)|(refine Need.mk ?_ ?_;rotate_left;cbv)|(refine R0 ?_;cbv))
 all_goals(repeat' apply And.intro)
 all_goals first
  | exact True.intro
  | exact WkR.refl _
  | rfl
  | (refine Nm fun _ e=>⟨.of_eq e.symm,?_⟩;cbv;(repeat' apply And.intro)<;>first|exact True.intro|exact WkR.refl _|rfl)
  | trace_state
end Go.Sym
