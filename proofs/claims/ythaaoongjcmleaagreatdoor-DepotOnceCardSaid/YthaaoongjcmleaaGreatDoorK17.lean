/- Depots of their own memory; which may be. -/
import Derived.Test.YthaaoongjcmleaaGreatDoorK16
set_option linter.all false
set_option linter.unusedVariables false
set_option linter.unusedSimpArgs false
namespace Go.Sym
open Go Go.Proofs.Tryz
set_option maxRecDepth 100000
structure AnsIn (a:Answer) (m:Nat):Prop where
 doc:a.doc.length≤m
 docs:a.docs.length≤m∧∀ n∈a.docs,n.doc.length≤m
 news:a.news.length≤m∧∀ n∈a.news,n.doc.length≤m
 keys:a.keys.length≤m
theorem AnsIn.mono {a:Answer} {m n:Nat} (h:AnsIn a m) (k:m≤n):AnsIn a n :=
 ⟨Nat.le_trans h.doc k,⟨Nat.le_trans h.docs.1 k,fun x hx=>Nat.le_trans (h.docs.2 x hx) k⟩,⟨Nat.le_trans h.news.1 k,fun x hx=>Nat.le_trans (h.news.2 x hx) k⟩,Nat.le_trans h.keys k⟩
theorem FewA.inn {a:Answer} (h:FewA a):AnsIn a 60:=⟨by have:=h.doc;omega,⟨by have:=h.docs.1;omega,fun x hx=>by have:=h.docs.2 x hx;omega⟩,⟨h.news.1,fun x hx=>by have:=h.news.2 x hx;omega⟩,by have:=h.keys;omega⟩
theorem lasts_set (O:Opq) {l:List LastR} {k:Nat} {x:LastR} (hx:l[k]?=some x):(O.o (Lasts.enc O) l).set k (LastR.enc O x)=O.o (Lasts.enc O) l:=by
 obtain⟨hk,rfl⟩:=List.getElem?_eq_some_iff.1 hx
 simp only [O.h]
 rw[Lasts.enc,← List.map_set,List.set_getElem_self]
theorem cloneL_fn (O:Opq) (d:List LastR) (hd:d.length≤1099511627):Fn prog 89 [.sl false 0 false 10 (O.o (Lasts.enc O) d)] [] [.ref 0] [.arr 0 none 10 (O.o (Lasts.enc O) d)]:=by
 have hlen:(O.o (Lasts.enc O) d).length=d.length:=Lasts.len O d
 refine .inl (Fn.nilOr (pre:=[]) (post:=[]) (fun h0=>?_) ?_)
 ·refine goB (fn:=Proofs.Tryz.f89) (n:=7) (rv:=[ResultVar.tmp 2]) rfl (by decide) rfl (by decide +kernel) rfl rfl (by simp) fun F L C=>?_
  cbv
  (repeat' first|(refine Na ?_ fun _ _=>?_;(focus lia);cbv)|(refine RetThen.mk [(0,.nil 10)] [] ?_;cbv)|(refine Nl fun _ _ hq=>?_;(try simp only [lenS] at hq);cbv)|(refine Nm fun _ _=>?_;cbv)|(refine Br.t ?_ ?_;(focus first|assumption|lia);cbv)|(refine Br.f ?_ ?_;(focus first|assumption|lia);cbv)|(refine Br.mk (fun _=>?_) (fun _=>?_)<;>cbv)|(refine Need.mk ?_ ?_;rotate_left;cbv)|(refine R0 ?_;cbv))
  all_goals exact⟨h0,trivial⟩
 ·refine goB (fn:=Proofs.Tryz.f89) (n:=7) (rv:=[ResultVar.tmp 2]) rfl (by decide) rfl (by decide +kernel) rfl rfl (by simp) fun F L C=>?_
  cbv
  (repeat' first|(refine Na ?_ fun _ _=>?_;(focus lia);cbv)|(refine RetThen.mk [(0,.loc 576)] [] ?_;cbv)|(refine Nl fun _ _ hq=>?_;(try simp only [lenS] at hq);cbv)|(refine Nm fun _ _=>?_;cbv)|(refine Br.t ?_ ?_;(focus first|assumption|lia);cbv)|(refine Br.f ?_ ?_;(focus first|assumption|lia);cbv)|(refine Br.mk (fun _=>?_) (fun _=>?_)<;>cbv)|(refine Need.mk ?_ ?_;rotate_left;cbv)|(refine R0 ?_;cbv))
  ·rename_i r hr
   subst hr
   exact⟨WkR.of_eq rfl,trivial⟩
  ·have:([]:List (List PV)).length=0:=rfl
   lia
theorem cloneP_fn (O:Opq) (d:List PairK) (hd:d.length≤1099511627):Fn prog 100 [.sl false 0 false 2 (O.o Prs.enc d)] [] [.sl false 0 false 2 (O.o Prs.enc d)] []:=by
 have hlen:(O.o Prs.enc d).length=d.length:=Prs.len O d
 refine .inl (Fn.nilOr (pre:=[]) (post:=[]) (fun h0=>?_) ?_)
 ·refine goB (fn:=Proofs.Tryz.f100) (n:=7) (rv:=[ResultVar.tmp 2]) rfl (by decide) rfl (by decide +kernel) rfl rfl (by simp) fun F L C=>?_
  cbv
  (repeat' first|(refine Na ?_ fun _ _=>?_;(focus lia);cbv)|(refine R0 ?_;cbv)|(refine Nl fun _ _ hq=>?_;(try simp only [lenS] at hq);cbv)|(refine Nm fun _ _=>?_;cbv)|(refine Br.t ?_ ?_;(focus first|assumption|lia);cbv)|(refine Br.f ?_ ?_;(focus first|assumption|lia);cbv)|(refine Br.mk (fun _=>?_) (fun _=>?_)<;>cbv)|(refine Need.mk ?_ ?_;rotate_left;cbv)|(refine R0 ?_;cbv))
  all_goals exact⟨h0,trivial⟩
 ·refine goB (fn:=Proofs.Tryz.f100) (n:=7) (rv:=[ResultVar.tmp 2]) rfl (by decide) rfl (by decide +kernel) rfl rfl (by simp) fun F L C=>?_
  cbv
  (repeat' first|(refine Na ?_ fun _ _=>?_;(focus lia);cbv)|(refine RetThen.mk [] [576] ?_;cbv)|(refine Nl fun _ _ hq=>?_;(try simp only [lenS] at hq);cbv)|(refine Nm fun _ _=>?_;cbv)|(refine Br.t ?_ ?_;(focus first|assumption|lia);cbv)|(refine Br.f ?_ ?_;(focus first|assumption|lia);cbv)|(refine Br.mk (fun _=>?_) (fun _=>?_)<;>cbv)|(refine Need.mk ?_ ?_;rotate_left;cbv)|(refine R0 ?_;cbv))
  ·refine⟨WkR.of_eq ?_,trivial⟩
   clear hlen
   subst_vars
   rfl
  ·have:([]:List (List PV)).length=0:=rfl
   lia
set_option maxHeartbeats 4000000 in
theorem ddocs0_fn (O:Opq) (l:List Ndoc) (hl:l.length≤1099511627) (hd:∀ n∈l,n.doc.length≤1099511627):Fn prog 88 [.sl true 0 false 2 (O.o (Nms.enc O) l)] [] [.sl false 0 false 2 (O.o (Nms.enc O) l)] []:=by
 have hlen:(O.o (Nms.enc O) l).length=l.length:=Nms.len O l
 have hcl:=cloneN_fn O l hl
 obtain⟨N,hN⟩:∃ N:Nat,N=l.length:=⟨_,rfl⟩
 obtain⟨z,hz⟩:∃ z:Nat,z=0:=⟨_,rfl⟩
 refine go (fn:=Proofs.Tryz.f88) (n:=22) (rv:=[ResultVar.tmp 2]) rfl (by decide) rfl (by decide +kernel) rfl rfl (by simp) fun F L C=>?_
 cbv
 (repeat' first|(refine Na ?_ fun _ _=>?_;(focus lia);cbv)|(refine CallThen.mk _ _ (C.fn (hcl)) ?_;cbv)|(refine Nl fun _ _ hq=>?_;(try simp only [lenS] at hq);cbv)|(refine Nm fun _ _=>?_;cbv)|(refine Br.t ?_ ?_;(focus first|assumption|lia);cbv)|(refine Br.f ?_ ?_;(focus first|assumption|lia);cbv)|(refine Br.mk (fun _=>?_) (fun _=>?_)<;>cbv)|(refine Need.mk ?_ ?_;rotate_left;cbv)|(refine R0 ?_;cbv))
 refine LoopThen.mk (C.loopAt (ι:=Nat) [(3,4),(9,21)] (fun k=>[(9,.int .i64 k)]) (fun _=>[(512,.arr 0 none 2 (O.o (Nms.enc O) l))])
  (fun k=>k≤N) (fun k=>N-k) (by decide +kernel) (Start.mk z [] [] (by lia) (by cbv;(repeat' apply And.intro)<;>first|exact True.intro|exact WkR.refl _|rfl|lia)) ?_)
 intro k g
 cbv
 by_cases hk:k<l.length
 ·obtain⟨x,hx⟩:∃ x,l[k]?=some x:=⟨l[k],by simp [hk]⟩
  have hxd:=hd x (List.mem_of_getElem? hx)
  have hse:=nms_set O hx
  clear hd hcl
  obtain⟨key,doc⟩:=x
  (repeat' first|(refine Na ?_ fun _ _=>?_;(focus lia);cbv)|(refine Ex.known O (Ndoc.enc O) rfl hx ?_ ?_;(focus lia);cbv)|(refine CallThen.mk _ _ (C.fn (cloneW_fn O doc hxd)) ?_;cbv)|(refine Back.up [] [] ?_ ?_ fun _ _=>?_;rotate_left 2;cbv;refine And.intro ?_ ?_)|(refine Nl fun _ _ hq=>?_;(try simp only [lenS] at hq);cbv)|(refine Nm fun _ _=>?_;cbv)|(refine Br.t ?_ ?_;(focus first|assumption|lia);cbv)|(refine Br.f ?_ ?_;(focus first|assumption|lia);cbv)|(refine Br.mk (fun _=>?_) (fun _=>?_)<;>cbv)|(refine Need.mk ?_ ?_;rotate_left;cbv)|(refine R0 ?_;cbv))
  all_goals(repeat' apply And.intro)
  all_goals try first
   | exact True.intro
   | exact WkR.refl _
   | (clear hse hx;lia)
  all_goals first
   | (rename_i i1 ei1 i2 ei2 R eR n1 en1 n2 en2;exact WkR.of_eq (by rw[eR,show i2=k from ei2];exact hse.symm))
   | (rename_i i1 ei1 R eR n1 en1 n2 en2;exact WkR.of_eq (by rw[eR,show i1=k from ei1];exact hse.symm))
 ·clear hcl
  (repeat' first|(refine Na ?_ fun _ _=>?_;(focus lia);cbv)|(refine RetThen.mk [] [512] ?_;cbv)|(refine Nl fun _ _ hq=>?_;(try simp only [lenS] at hq);cbv)|(refine Nm fun _ _=>?_;cbv)|(refine Br.t ?_ ?_;(focus first|assumption|lia);cbv)|(refine Br.f ?_ ?_;(focus first|assumption|lia);cbv)|(refine Br.mk (fun _=>?_) (fun _=>?_)<;>cbv)|(refine Need.mk ?_ ?_;rotate_left;cbv)|(refine R0 ?_;cbv))
  all_goals(repeat' apply And.intro)
  all_goals first
   | exact True.intro
   | exact WkR.refl _
   | (refine WkR.of_eq ?_;symm;assumption)
   | (refine WkR.of_eq ?_;subst_vars;rfl)
   | lia
   | trace_state
set_option maxHeartbeats 4000000 in
theorem dnews0_fn (O:Opq) (l:List Change) (hl:l.length≤1099511627) (hd:∀ n∈l,n.doc.length≤1099511627):Fn prog 90 [.sl true 0 false 4 (O.o (Chs.enc O) l)] [] [.sl false 0 false 4 (O.o (Chs.enc O) l)] []:=by
 have hlen:(O.o (Chs.enc O) l).length=l.length:=Chs.len O l
 have hcl:=cloneC_fn O l hl
 obtain⟨N,hN⟩:∃ N:Nat,N=l.length:=⟨_,rfl⟩
 obtain⟨z,hz⟩:∃ z:Nat,z=0:=⟨_,rfl⟩
 refine go (fn:=Proofs.Tryz.f90) (n:=22) (rv:=[ResultVar.tmp 2]) rfl (by decide) rfl (by decide +kernel) rfl rfl (by simp) fun F L C=>?_
 cbv
 (repeat' first|(refine Na ?_ fun _ _=>?_;(focus lia);cbv)|(refine CallThen.mk _ _ (C.fn (hcl)) ?_;cbv)|(refine Nl fun _ _ hq=>?_;(try simp only [lenS] at hq);cbv)|(refine Nm fun _ _=>?_;cbv)|(refine Br.t ?_ ?_;(focus first|assumption|lia);cbv)|(refine Br.f ?_ ?_;(focus first|assumption|lia);cbv)|(refine Br.mk (fun _=>?_) (fun _=>?_)<;>cbv)|(refine Need.mk ?_ ?_;rotate_left;cbv)|(refine R0 ?_;cbv))
 refine LoopThen.mk (C.loopAt (ι:=Nat) [(3,4),(9,21)] (fun k=>[(9,.int .i64 k)]) (fun _=>[(512,.arr 0 none 4 (O.o (Chs.enc O) l))])
  (fun k=>k≤N) (fun k=>N-k) (by decide +kernel) (Start.mk z [] [] (by lia) (by cbv;(repeat' apply And.intro)<;>first|exact True.intro|exact WkR.refl _|rfl|lia)) ?_)
 intro k g
 cbv
 by_cases hk:k<l.length
 ·obtain⟨x,hx⟩:∃ x,l[k]?=some x:=⟨l[k],by simp [hk]⟩
  have hxd:=hd x (List.mem_of_getElem? hx)
  have hse:=chs_set O hx
  clear hd hcl
  obtain⟨p,key,has,doc⟩:=x
  (repeat' first|(refine Na ?_ fun _ _=>?_;(focus lia);cbv)|(refine Ex.known O (Change.enc O) rfl hx ?_ ?_;(focus lia);cbv)|(refine CallThen.mk _ _ (C.fn (cloneW_fn O doc hxd)) ?_;cbv)|(refine Back.up [] [] ?_ ?_ fun _ _=>?_;rotate_left 2;cbv;refine And.intro ?_ ?_)|(refine Nl fun _ _ hq=>?_;(try simp only [lenS] at hq);cbv)|(refine Nm fun _ _=>?_;cbv)|(refine Br.t ?_ ?_;(focus first|assumption|lia);cbv)|(refine Br.f ?_ ?_;(focus first|assumption|lia);cbv)|(refine Br.mk (fun _=>?_) (fun _=>?_)<;>cbv)|(refine Need.mk ?_ ?_;rotate_left;cbv)|(refine R0 ?_;cbv))
  all_goals(repeat' apply And.intro)
  all_goals try first
   | exact True.intro
   | exact WkR.refl _
   | (clear hse hx;lia)
  all_goals first
   | (rename_i i1 ei1 i2 ei2 R eR n1 en1 n2 en2;exact WkR.of_eq (by rw[eR,show i2=k from ei2];exact hse.symm))
   | (rename_i i1 ei1 R eR n1 en1 n2 en2;exact WkR.of_eq (by rw[eR,show i1=k from ei1];exact hse.symm))
 ·clear hcl
  (repeat' first|(refine Na ?_ fun _ _=>?_;(focus lia);cbv)|(refine RetThen.mk [] [512] ?_;cbv)|(refine Nl fun _ _ hq=>?_;(try simp only [lenS] at hq);cbv)|(refine Nm fun _ _=>?_;cbv)|(refine Br.t ?_ ?_;(focus first|assumption|lia);cbv)|(refine Br.f ?_ ?_;(focus first|assumption|lia);cbv)|(refine Br.mk (fun _=>?_) (fun _=>?_)<;>cbv)|(refine Need.mk ?_ ?_;rotate_left;cbv)|(refine R0 ?_;cbv))
  all_goals(repeat' apply And.intro)
  all_goals first
   | exact True.intro
   | exact WkR.refl _
   | (refine WkR.of_eq ?_;symm;assumption)
   | (refine WkR.of_eq ?_;subst_vars;rfl)
   | lia
   | trace_state
theorem ddocs_fn (O:Opq) (l:List Ndoc) (hl:l.length≤1099511627) (hd:∀ n∈l,n.doc.length≤1099511627):Fn prog 88 [.sl false 0 false 2 (O.o (Nms.enc O) l)] [] [.sl false 0 false 2 (O.o (Nms.enc O) l)] []:=(ddocs0_fn O l hl hd).wkA (.cons (.lend rfl) .nil)
theorem dnews_fn (O:Opq) (l:List Change) (hl:l.length≤1099511627) (hd:∀ n∈l,n.doc.length≤1099511627):Fn prog 90 [.sl false 0 false 4 (O.o (Chs.enc O) l)] [] [.sl false 0 false 4 (O.o (Chs.enc O) l)] []:=(dnews0_fn O l hl hd).wkA (.cons (.lend rfl) .nil)
theorem danswer_fn (O:Opq) (a:Answer) (h:AnsIn a 1099511627):Fn prog 54 [.agg (a.enc O)] [] [.agg (a.enc O)] []:=by
 have k1:=cloneW_fn O a.doc h.doc
 have k2:=ddocs_fn O a.docs h.docs.1 h.docs.2
 have k3:=dnews_fn O a.news h.news.1 h.news.2
 have k4:=cloneP_fn O a.keys h.keys
 clear h
 obtain⟨c,h,d,ds,ns,n,t,ks⟩:=a
 refine go (fn:=Proofs.Tryz.f54) (n:=19) (rv:=[ResultVar.cell 2 61]) rfl (by decide) rfl (by decide +kernel) rfl rfl (by simp) fun F L C=>?_
 cbv
 (repeat' first|(refine Na ?_ fun _ _=>?_;(focus lia);cbv)|(refine CallThen.mk _ _ (C.fn (k1)) ?_;cbv)|(refine CallThen.mk _ _ (C.fn (k2)) ?_;cbv)|(refine CallThen.mk _ _ (C.fn (k3)) ?_;cbv)|(refine CallThen.mk _ _ (C.fn (k4)) ?_;cbv)|(refine Nl fun _ _ hq=>?_;(try simp only [lenS] at hq);cbv)|(refine Nm fun _ _=>?_;cbv)|(refine Br.t ?_ ?_;(focus first|assumption|lia);cbv)|(refine Br.f ?_ ?_;(focus first|assumption|lia);cbv)|(refine Br.mk (fun _=>?_) (fun _=>?_)<;>cbv)|(refine Need.mk ?_ ?_;rotate_left;cbv)|(refine R0 ?_;cbv))
 all_goals(repeat' apply And.intro)
 all_goals first
  | exact True.intro
  | exact WkR.refl _
  | rfl
  | trace_state
set_option maxHeartbeats 4000000 in
theorem down_fn (O:Opq) (d:Depot) (h1:d.docs.length≤1099511627∧∀ n∈d.docs,n.doc.length≤1099511627) (h2:d.feed.changes.length≤1099511627∧∀ n∈d.feed.changes,n.doc.length≤1099511627) (h3:d.feed.subs.length≤1099511627) (h4:d.last.length≤1099511627∧∀ x∈d.last,AnsIn x.answer 1099511627) :
  Fn prog 47 [.agg (d.enc O)] [] [.agg [.sl false 0 false 2 (O.o (Nms.enc O) d.docs),.int .i64 d.feed.base,.int .i64 d.feed.total,.sl false 0 false 4 (O.o (Chs.enc O) d.feed.changes),.sl false 0 false 2 (O.o Subs.enc d.feed.subs),.ref 0]] [.arr 0 none 10 (O.o (Lasts.enc O) d.last)]:=by
 have k1:=ddocs_fn O d.docs h1.1 h1.2
 have k2:=dnews_fn O d.feed.changes h2.1 h2.2
 have k3:=cloneS_fn O d.feed.subs h3
 have k4:=cloneL_fn O d.last h4.1
 have hlen:=Lasts.len O d.last
 obtain⟨docs,⟨base,total,chs,subs⟩,l⟩:=d
 have hl4:l.length≤1099511627:=h4.1
 replace h4:∀ x∈l,AnsIn x.answer 1099511627:=h4.2
 clear h1 h2 h3
 obtain⟨N,hN⟩:∃ N:Nat,N=l.length:=⟨_,rfl⟩
 obtain⟨z,hz⟩:∃ z:Nat,z=0:=⟨_,rfl⟩
 replace hlen:(O.o (Lasts.enc O) l).length=l.length:=hlen
 refine go (fn:=Proofs.Tryz.f47) (n:=42) (rv:=[ResultVar.cell 2 47]) rfl (by decide) rfl (by decide +kernel) rfl rfl (by simp) fun F L C=>?_
 cbv
 (repeat' first|(refine Na ?_ fun _ _=>?_;(focus lia);cbv)|(refine CallThen.mk _ _ (C.fn (k1)) ?_;cbv)|(refine CallThen.mk _ _ (C.fn (k2)) ?_;cbv)|(refine CallThen.mk _ _ (C.fn (k3)) ?_;cbv)|(refine CallThen.mk _ _ (C.fn (k4)) ?_;cbv)|(refine Nl fun _ _ hq=>?_;(try simp only [lenS] at hq);cbv)|(refine Nm fun _ _=>?_;cbv)|(refine Br.t ?_ ?_;(focus first|assumption|lia);cbv)|(refine Br.f ?_ ?_;(focus first|assumption|lia);cbv)|(refine Br.mk (fun _=>?_) (fun _=>?_)<;>cbv)|(refine Need.mk ?_ ?_;rotate_left;cbv)|(refine R0 ?_;cbv))
 refine LoopThen.mk (C.loopAt (ι:=Nat) [(3,4),(28,41)] (fun k=>[(28,.int .i64 k)]) (fun _=>[(768,.arr 0 none 10 (O.o (Lasts.enc O) l)),(1408,.arr 0 none 2 (O.o Subs.enc subs)),(192,.box [.sl false 0 false 2 (O.o (Nms.enc O) docs),.int .i64 base,.int .i64 total,.sl false 0 false 4 (O.o (Chs.enc O) chs),.ref 1408,.ref 768]),(256,.box [.nils,.int .i64 0,.int .i64 0,.nils,.nils,.nils])])
  (fun k=>k≤N) (fun k=>N-k) (by decide +kernel) (Start.mk z [] [] (by lia) ?_) ?_)
 ·cbv
  (repeat' apply And.intro)<;>first|exact True.intro|exact WkR.refl _|rfl|lia|trace_state
 intro k g
 cbv
 clear k1 k2 k3 k4
 by_cases hk:k<l.length
 ·obtain⟨x,hx⟩:∃ x,l[k]?=some x:=⟨l[k],by simp [hk]⟩
  have ha:=danswer_fn O x.answer (h4 x (List.mem_of_getElem? hx))
  have hse:=lasts_set O hx
  clear h4
  obtain⟨c,i,⟨ac,ah,ad,ads,ans,an,at',ak⟩⟩:=x
  (repeat' first|(refine Na ?_ fun _ _=>?_;(focus lia);cbv)|(refine Ex.known O (LastR.enc O) rfl hx ?_ ?_;(focus lia);cbv)|(refine CallThen.mk _ _ (C.fn (ha)) ?_;cbv)|(refine Back.up [] [] ?_ ?_ fun _ _=>?_;rotate_left 2;cbv;refine And.intro ?_ ?_)|(refine Nl fun _ _ hq=>?_;(try simp only [lenS] at hq);cbv)|(refine Nm fun _ _=>?_;cbv)|(refine Br.t ?_ ?_;(focus first|assumption|lia);cbv)|(refine Br.f ?_ ?_;(focus first|assumption|lia);cbv)|(refine Br.mk (fun _=>?_) (fun _=>?_)<;>cbv)|(refine Need.mk ?_ ?_;rotate_left;cbv)|(refine R0 ?_;cbv))
  all_goals(repeat' apply And.intro)
  all_goals try first
   | exact True.intro
   | exact WkR.refl _
   | (clear hse hx ha;lia)
  all_goals first
   | (subst_vars;exact WkR.of_eq hse.symm)
   | trace_state
 ·(repeat' first|(refine Na ?_ fun _ _=>?_;(focus lia);cbv)|(refine RetThen.mk [(0,.loc 768)] [1408] ?_;cbv)|(refine Nl fun _ _ hq=>?_;(try simp only [lenS] at hq);cbv)|(refine Nm fun _ _=>?_;cbv)|(refine Br.t ?_ ?_;(focus first|assumption|lia);cbv)|(refine Br.f ?_ ?_;(focus first|assumption|lia);cbv)|(refine Br.mk (fun _=>?_) (fun _=>?_)<;>cbv)|(refine Need.mk ?_ ?_;rotate_left;cbv)|(refine R0 ?_;cbv))
  all_goals(repeat' apply And.intro)
  all_goals first
   | exact True.intro
   | exact WkR.refl _
   | rfl
   | lia
   | (refine Nm fun _ e=>⟨.of_eq e.symm,?_⟩;cbv;done)
   | trace_state
end Go.Sym
