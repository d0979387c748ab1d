/- Depots of their own memory; which may be. -/
import Derived.Test.YtfkigahipkndgaaGreatDoorK15
set_option linter.all false
set_option linter.unusedVariables false
set_option linter.unusedSimpArgs false
namespace Go.Sym
open Go Go.Proofs.Tryz
set_option maxRecDepth 100000
structure AnsIn (a:Answer) (m:Nat):Prop where
 doc:a.doc.length≤m
 docs:a.docs.length≤m∧∀ n∈a.docs,n.doc.length≤m
 news:a.news.length≤m∧∀ n∈a.news,n.doc.length≤m
 keys:a.keys.length≤m
theorem AnsIn.mono {a:Answer} {m n:Nat} (h:AnsIn a m) (k:m≤n):AnsIn a n :=
 ⟨Nat.le_trans h.doc k,⟨Nat.le_trans h.docs.1 k,fun x hx=>Nat.le_trans (h.docs.2 x hx) k⟩,⟨Nat.le_trans h.news.1 k,fun x hx=>Nat.le_trans (h.news.2 x hx) k⟩,Nat.le_trans h.keys k⟩
theorem FewA.inn {a:Answer} (h:FewA a):AnsIn a 60:=⟨by have:=h.doc;omega,⟨by have:=h.docs.1;omega,fun x hx=>by have:=h.docs.2 x hx;omega⟩,⟨h.news.1,fun x hx=>by have:=h.news.2 x hx;omega⟩,by have:=h.keys;omega⟩
theorem lasts_set (O:Opq) {l:List LastR} {k:Nat} {x:LastR} (hx:l[k]?=some x):(O.o (Lasts.enc O) l).set k (LastR.enc O x)=O.o (Lasts.enc O) l:=by
 obtain⟨hk,rfl⟩:=List.getElem?_eq_some_iff.1 hx
 simp only [O.h]
 rw[Lasts.enc,← List.map_set,List.set_getElem_self]
theorem cloneL_fn (O:Opq) (d:List LastR) (hd:d.length≤1099511627):Fn prog 133 [.sl false 0 false 10 (O.o (Lasts.enc O) d)] [] [.ref 0] [.arr 0 none 10 (O.o (Lasts.enc O) d)]:=by
 have hlen:(O.o (Lasts.enc O) d).length=d.length:=Lasts.len O d
 refine .inl (Fn.nilOr (pre:=[]) (post:=[]) (fun h0=>?_) ?_)
 ·refine goB (fn:=Proofs.Tryz.f133) (n:=7) (rv:=[ResultVar.tmp 2]) rfl (by decide) rfl (by decide +kernel) rfl rfl (by simp) fun F L C=>?_
  cbv
  (repeat' first|(refine Na ?_ fun _ _=>?_;(focus lia);cbv)|(refine RetThen.mk [(0,.nil 10)] [] ?_;cbv)|(refine Nl fun _ _ hq=>?_;(try simp only [lenS] at hq);cbv)|(refine Nm fun _ _=>?_;cbv)|(refine Br.t ?_ ?_;(focus first|assumption|lia);cbv)|(refine Br.f ?_ ?_;(focus first|assumption|lia);cbv)|(refine Br.mk (fun _=>?_) (fun _=>?_)<;>cbv)|(refine Need.mk ?_ ?_;rotate_left;cbv)|(refine R0 ?_;cbv))
  all_goals exact⟨h0,trivial⟩
 ·refine goB (fn:=Proofs.Tryz.f133) (n:=7) (rv:=[ResultVar.tmp 2]) rfl (by decide) rfl (by decide +kernel) rfl rfl (by simp) fun F L C=>?_
  cbv
  (repeat' first|(refine Na ?_ fun _ _=>?_;(focus lia);cbv)|(refine RetThen.mk [(0,.loc 576)] [] ?_;cbv)|(refine Nl fun _ _ hq=>?_;(try simp only [lenS] at hq);cbv)|(refine Nm fun _ _=>?_;cbv)|(refine Br.t ?_ ?_;(focus first|assumption|lia);cbv)|(refine Br.f ?_ ?_;(focus first|assumption|lia);cbv)|(refine Br.mk (fun _=>?_) (fun _=>?_)<;>cbv)|(refine Need.mk ?_ ?_;rotate_left;cbv)|(refine R0 ?_;cbv))
  ·rename_i r hr
   subst hr
   exact⟨WkR.of_eq rfl,trivial⟩
  ·have:([]:List (List PV)).length=0:=rfl
   lia
theorem cloneP_fn (O:Opq) (d:List PairK) (hd:d.length≤1099511627):Fn prog 144 [.sl false 0 false 2 (O.o Prs.enc d)] [] [.sl false 0 false 2 (O.o Prs.enc d)] []:=by
 have hlen:(O.o Prs.enc d).length=d.length:=Prs.len O d
 refine .inl (Fn.nilOr (pre:=[]) (post:=[]) (fun h0=>?_) ?_)
 ·refine goB (fn:=Proofs.Tryz.f144) (n:=7) (rv:=[ResultVar.tmp 2]) rfl (by decide) rfl (by decide +kernel) rfl rfl (by simp) fun F L C=>?_
  cbv
  (repeat' first|(refine Na ?_ fun _ _=>?_;(focus lia);cbv)|(refine R0 ?_;cbv)|(refine Nl fun _ _ hq=>?_;(try simp only [lenS] at hq);cbv)|(refine Nm fun _ _=>?_;cbv)|(refine Br.t ?_ ?_;(focus first|assumption|lia);cbv)|(refine Br.f ?_ ?_;(focus first|assumption|lia);cbv)|(refine Br.mk (fun _=>?_) (fun _=>?_)<;>cbv)|(refine Need.mk ?_ ?_;rotate_left;cbv)|(refine R0 ?_;cbv))
  all_goals exact⟨h0,trivial⟩
 ·refine goB (fn:=Proofs.Tryz.f144) (n:=7) (rv:=[ResultVar.tmp 2]) rfl (by decide) rfl (by decide +kernel) rfl rfl (by simp) fun F L C=>?_
  cbv
  (repeat' first|(refine Na ?_ fun _ _=>?_;(focus lia);cbv)|(refine RetThen.mk [] [576] ?_;cbv)|(refine Nl fun _ _ hq=>?_;(try simp only [lenS] at hq);cbv)|(refine Nm fun _ _=>?_;cbv)|(refine Br.t ?_ ?_;(focus first|assumption|lia);cbv)|(refine Br.f ?_ ?_;(focus first|assumption|lia);cbv)|(refine Br.mk (fun _=>?_) (fun _=>?_)<;>cbv)|(refine Need.mk ?_ ?_;rotate_left;cbv)|(refine R0 ?_;cbv))
  ·refine⟨WkR.of_eq ?_,trivial⟩
   clear hlen
   subst_vars
   rfl
  ·have:([]:List (List PV)).length=0:=rfl
   lia
set_option maxHeartbeats 4000000 in
theorem ddocs0_fn (O:Opq) (l:List Ndoc) (hl:l.length≤1099511627) (hd:∀ n∈l,n.doc.length≤1099511627):Fn prog 132 [.sl true 0 false 2 (O.o (Nms.enc O) l)] [] [.sl false 0 false 2 (O.o (Nms.enc O) l)] []:=by
 have hlen:(O.o (Nms.enc O) l).length=l.length:=Nms.len O l
 have hcl:=cloneN_fn O l hl
 obtain⟨N,hN⟩:∃ N:Nat,N=l.length:=⟨_,rfl⟩
 obtain⟨z,hz⟩:∃ z:Nat,z=0:=⟨_,rfl⟩
 refine go (fn:=Proofs.Tryz.f132) (n:=22) (rv:=[ResultVar.tmp 2]) rfl (by decide) rfl (by decide +kernel) rfl rfl (by simp) fun F L C=>?_
 cbv
 (repeat' first|(refine Na ?_ fun _ _=>?_;(focus lia);cbv)|(refine CallThen.mk _ _ (C.fn (hcl)) ?_;cbv)|(refine Nl fun _ _ hq=>?_;(try simp only [lenS] at hq);cbv)|(refine Nm fun _ _=>?_;cbv)|(refine Br.t ?_ ?_;(focus first|assumption|lia);cbv)|(refine Br.f ?_ ?_;(focus first|assumption|lia);cbv)|(refine Br.mk (fun _=>?_) (fun _=>?_)<;>cbv)|(refine Need.mk ?_ ?_;rotate_left;cbv)|(refine R0 ?_;cbv))
 refine LoopThen.mk (C.loopAt (ι:=Nat) [(3,4),(9,21)] (fun k=>[(9,.int .i64 k)]) (fun _=>[(512,.arr 0 none 2 (O.o (Nms.enc O) l))])
  (fun k=>k≤N) (fun k=>N-k) (by decide +kernel) (Start.mk z [] [] (by lia) (by cbv;(repeat' apply And.intro)<;>first|exact True.intro|exact WkR.refl _|rfl|lia)) ?_)
 intro k g
 cbv
 by_cases hk:k<l.length
 ·obtain⟨x,hx⟩:∃ x,l[k]?=some x:=⟨l[k],by simp [hk]⟩
  have hxd:=hd x (List.mem_of_getElem? hx)
  have hse:=nms_set O hx
  clear hd hcl
  obtain⟨key,doc⟩:=x
  (repeat' first|(refine Na ?_ fun _ _=>?_;(focus lia);cbv)|(refine Ex.known O (Ndoc.enc O) rfl hx ?_ ?_;(focus lia);cbv)|(refine CallThen.mk _ _ (C.fn (cloneW_fn O doc hxd)) ?_;cbv)|(refine Back.up [] [] ?_ ?_ fun _ _=>?_;rotate_left 2;cbv;refine And.intro ?_ ?_)|(refine Nl fun _ _ hq=>?_;(try simp only [lenS] at hq);cbv)|(refine Nm fun _ _=>?_;cbv)|(refine Br.t ?_ ?_;(focus first|assumption|lia);cbv)|(refine Br.f ?_ ?_;(focus first|assumption|lia);cbv)|(refine Br.mk (fun _=>?_) (fun _=>?_)<;>cbv)|(refine Need.mk ?_ ?_;rotate_left;cbv)|(refine R0 ?_;cbv))
  all_goals(repeat' apply And.intro)
  all_goals try first
   | exact True.intro
   | exact WkR.refl _
   | (clear hse hx;lia)
  all_goals first
   | (rename_i i1 ei1 i2 ei2 R eR n1 en1 n2 en2;exact WkR.of_eq (by rw[eR,show i2=k from ei2];exact hse.symm))
   | (rename_i i1 ei1 R eR n1 en1 n2 en2;exact WkR.of_eq (by rw[eR,show i1=k from ei1];exact hse.symm))
 ·clear hcl
  (repeat' first|(refine Na ?_ fun _ _=>?_;(focus lia);cbv)|(refine RetThen.mk [] [512] ?_;cbv)|(refine Nl fun _ _ hq=>?_;(try simp only [lenS] at hq);cbv)|(refine Nm fun _ _=>?_;cbv)|(refine Br.t ?_ ?_;(focus first|assumption|lia);cbv)|(refine Br.f ?_ ?_;(focus first|assumption|lia);cbv)|(refine Br.mk (fun _=>?_) (fun _=>?_)<;>cbv)|(refine Need.mk ?_ ?_;rotate_left;cbv)|(refine R0 ?_;cbv))
  all_goals(repeat' apply And.intro)
  all_goals first
   | exact True.intro
   | exact WkR.refl _
   | (refine WkR.of_eq ?_;symm;assumption)
   | (refine WkR.of_eq ?_;subst_vars;rfl)
   | lia
   | trace_state
set_option maxHeartbeats 4000000 in
theorem dnews0_fn (O:Opq) (l:List Change) (hl:l.length≤1099511627) (hd:∀ n∈l,n.doc.length≤1099511627):Fn prog 134 [.sl true 0 false 4 (O.o (Chs.enc O) l)] [] [.sl false 0 false 4 (O.o (Chs.enc O) l)] []:=by
 have hlen:(O.o (Chs.enc O) l).length=l.length:=Chs.len O l
 have hcl:=cloneC_fn O l hl
 obtain⟨N,hN⟩:∃ N:Nat,N=l.length:=⟨_,rfl⟩
 obtain⟨z,hz⟩:∃ z:Nat,z=0:=⟨_,rfl⟩
 refine go (fn:=Proofs.Tryz.f134) (n:=22) (rv:=[ResultVar.tmp 2]) rfl (by decide) rfl (by decide +kernel) rfl rfl (by simp) fun F L C=>?_
 cbv
 (repeat' first|(refine Na ?_ fun _ _=>?_;(focus lia);cbv)|(refine CallThen.mk _ _ (C.fn (hcl)) ?_;cbv)|(refine Nl fun _ _ hq=>?_;(try simp only [lenS] at hq);cbv)|(refine Nm fun _ _=>?_;cbv)|(refine Br.t ?_ ?_;(focus first|assumption|lia);cbv)|(refine Br.f ?_ ?_;(focus first|assumption|lia);cbv)|(refine Br.mk (fun _=>?_) (fun _=>?_)<;>cbv)|(refine Need.mk ?_ ?_;rotate_left;cbv)|(refine R0 ?_;cbv))
 refine LoopThen.mk (C.loopAt (ι:=Nat) [(3,4),(9,21)] (fun k=>[(9,.int .i64 k)]) (fun _=>[(512,.arr 0 none 4 (O.o (Chs.enc O) l))])
  (fun k=>k≤N) (fun k=>N-k) (by decide +kernel) (Start.mk z [] [] (by lia) (by cbv;(repeat' apply And.intro)<;>first|exact True.intro|exact WkR.refl _|rfl|lia)) ?_)
 intro k g
 cbv
 by_cases hk:k<l.length
 ·obtain⟨x,hx⟩:∃ x,l[k]?=some x:=⟨l[k],by simp [hk]⟩
  have hxd:=hd x (List.mem_of_getElem? hx)
  have hse:=chs_set O hx
  clear hd hcl
  obtain⟨p,key,has,doc⟩:=x
  (repeat' first|(refine Na ?_ fun _ _=>?_;(focus lia);cbv)|(refine Ex.known O (Change.enc O) rfl hx ?_ ?_;(focus lia);cbv)|(refine CallThen.mk _ _ (C.fn (cloneW_fn O doc hxd)) ?_;cbv)|(refine Back.up [] [] ?_ ?_ fun _ _=>?_;rotate_left 2;cbv;refine And.intro ?_ ?_)|(refine Nl fun _ _ hq=>?_;(try simp only [lenS] at hq);cbv)|(refine Nm fun _ _=>?_;cbv)|(refine Br.t ?_ ?_;(focus first|assumption|lia);cbv)|(refine Br.f ?_ ?_;(focus first|assumption|lia);cbv)|(refine Br.mk (fun _=>?_) (fun _=>?_)<;>cbv)|(refine Need.mk ?_ ?_;rotate_left;cbv)|(refine R0 ?_;cbv))
  all_goals(repeat' apply And.intro)
  all_goals try first
   | exact True.intro
   | exact WkR.refl _
   | (clear hse hx;lia)
  all_goals first
   | (rename_i i1 ei1 i2 ei2 R eR n1 en1 n2 en2;exact WkR.of_eq (by rw[eR,show i2=k from ei2];exact hse.symm))
   | (rename_i i1 ei1 R eR n1 en1 n2 en2;exact WkR.of_eq (by rw[eR,show i1=k from ei1];exact hse.symm))
 ·clear hcl
  (repeat' first|(refine Na ?_ fun _ _=>?_;(focus lia);cbv)|(refine RetThen.mk [] [512] ?_;cbv)|(refine Nl fun _ _ hq=>?_;(try simp only [lenS] at hq);cbv)|(refine Nm fun _ _=>?_;cbv)|(refine Br.t ?_ ?_;(focus first|assumption|lia);cbv)|(refine Br.f ?_ ?_;(focus first|assumption|lia);cbv)|(refine Br.mk (fun _=>?_) (fun _=>?_)<;>cbv)|(refine Need.mk ?_ ?_;rotate_left;cbv)|(refine R0 ?_;cbv))
  all_goals(repeat' apply And.intro)
  all_goals first
   | exact True.intro
   | exact WkR.refl _
   | (refine WkR.of_eq ?_;symm;assumption)
   | (refine WkR.of_eq ?_;subst_vars;rfl)
   | lia
   | trace_state
theorem ddocs_fn (O:Opq) (l:List Ndoc) (hl:l.length≤1099511627) (hd:∀ n∈l,n.doc.length≤1099511627):Fn prog 132 [.sl false 0 false 2 (O.o (Nms.enc O) l)] [] [.sl false 0 false 2 (O.o (Nms.enc O) l)] []:=(ddocs0_fn O l hl hd).wkA (.cons (.lend rfl) .nil)
theorem dnews_fn (O:Opq) (l:List Change) (hl:l.length≤1099511627) (hd:∀ n∈l,n.doc.length≤1099511627):Fn prog 134 [.sl false 0 false 4 (O.o (Chs.enc O) l)] [] [.sl false 0 false 4 (O.o (Chs.enc O) l)] []:=(dnews0_fn O l hl hd).wkA (.cons (.lend rfl) .nil)
theorem danswer_fn (O:Opq) (a:Answer) (h:AnsIn a 1099511627):Fn prog 79 [.agg (a.enc O)] [] [.agg (a.enc O)] []:=by
 have k1:=cloneW_fn O a.doc h.doc
 have k2:=ddocs_fn O a.docs h.docs.1 h.docs.2
 have k3:=dnews_fn O a.news h.news.1 h.news.2
 have k4:=cloneP_fn O a.keys h.keys
 clear h
 obtain⟨c,h,d,ds,ns,n,t,ks⟩:=a
 refine go (fn:=Proofs.Tryz.f79) (n:=19) (rv:=[ResultVar.cell 2 37]) rfl (by decide) rfl (by decide +kernel) rfl rfl (by simp) fun F L C=>?_
 cbv
 (repeat' first|(refine Na ?_ fun _ _=>?_;(focus lia);cbv)|(refine CallThen.mk _ _ (C.fn (k1)) ?_;cbv)|(refine CallThen.mk _ _ (C.fn (k2)) ?_;cbv)|(refine CallThen.mk _ _ (C.fn (k3)) ?_;cbv)|(refine CallThen.mk _ _ (C.fn (k4)) ?_;cbv)|(refine Nl fun _ _ hq=>?_;(try simp only [lenS] at hq);cbv)|(refine Nm fun _ _=>?_;cbv)|(refine Br.t ?_ ?_;(focus first|assumption|lia);cbv)|(refine Br.f ?_ ?_;(focus first|assumption|lia);cbv)|(refine Br.mk (fun _=>?_) (fun _=>?_)<;>cbv)|(refine Need.mk ?_ ?_;rotate_left;cbv)|(refine R0 ?_;cbv))
 all_goals(repeat' apply And.intro)
 all_goals first
  | exact True.intro
  | exact WkR.refl _
  | rfl
  | trace_state
set_option maxHeartbeats 4000000 in
theorem down_fn (O:Opq) (d:Depot) (h1:d.docs.length≤1099511627∧∀ n∈d.docs,n.doc.length≤1099511627) (h2:d.feed.changes.length≤1099511627∧∀ n∈d.feed.changes,n.doc.length≤1099511627) (h3:d.feed.subs.length≤1099511627) (h4:d.last.length≤1099511627∧∀ x∈d.last,AnsIn x.answer 1099511627) :
  Fn prog 73 [.agg (d.enc O)] [] [.agg [.sl false 0 false 2 (O.o (Nms.enc O) d.docs),.int .i64 d.feed.base,.int .i64 d.feed.total,.sl false 0 false 4 (O.o (Chs.enc O) d.feed.changes),.sl false 0 false 2 (O.o Subs.enc d.feed.subs),.ref 0]] [.arr 0 none 10 (O.o (Lasts.enc O) d.last)]:=by
 have k1:=ddocs_fn O d.docs h1.1 h1.2
 have k2:=dnews_fn O d.feed.changes h2.1 h2.2
 have k3:=cloneS_fn O d.feed.subs h3
 have k4:=cloneL_fn O d.last h4.1
 have hlen:=Lasts.len O d.last
 obtain⟨docs,⟨base,total,chs,subs⟩,l⟩:=d
 have hl4:l.length≤1099511627:=h4.1
 replace h4:∀ x∈l,AnsIn x.answer 1099511627:=h4.2
 clear h1 h2 h3
 obtain⟨N,hN⟩:∃ N:Nat,N=l.length:=⟨_,rfl⟩
 obtain⟨z,hz⟩:∃ z:Nat,z=0:=⟨_,rfl⟩
 replace hlen:(O.o (Lasts.enc O) l).length=l.length:=hlen
 refine go (fn:=Proofs.Tryz.f73) (n:=42) (rv:=[ResultVar.cell 2 65]) rfl (by decide) rfl (by decide +kernel) rfl rfl (by simp) fun F L C=>?_
 cbv
 (repeat' first|(refine Na ?_ fun _ _=>?_;(focus lia);cbv)|(refine CallThen.mk _ _ (C.fn (k1)) ?_;cbv)|(refine CallThen.mk _ _ (C.fn (k2)) ?_;cbv)|(refine CallThen.mk _ _ (C.fn (k3)) ?_;cbv)|(refine CallThen.mk _ _ (C.fn (k4)) ?_;cbv)|(refine Nl fun _ _ hq=>?_;(try simp only [lenS] at hq);cbv)|(refine Nm fun _ _=>?_;cbv)|(refine Br.t ?_ ?_;(focus first|assumption|lia);cbv)|(refine Br.f ?_ ?_;(focus first|assumption|lia);cbv)|(refine Br.mk (fun _=>?_) (fun _=>?_)<;>cbv)|(refine Need.mk ?_ ?_;rotate_left;cbv)|(refine R0 ?_;cbv))
 refine LoopThen.mk (C.loopAt (ι:=Nat) [(3,4),(28,41)] (fun k=>[(28,.int .i64 k)]) (fun _=>[(768,.arr 0 none 10 (O.o (Lasts.enc O) l)),(1408,.arr 0 none 2 (O.o Subs.enc subs)),(192,.box [.sl false 0 false 2 (O.o (Nms.enc O) docs),.int .i64 base,.int .i64 total,.sl false 0 false 4 (O.o (Chs.enc O) chs),.ref 1408,.ref 768]),(256,.box [.nils,.int .i64 0,.int .i64 0,.nils,.nils,.nils])])
  (fun k=>k≤N) (fun k=>N-k) (by decide +kernel) (Start.mk z [] [] (by lia) ?_) ?_)
 ·cbv
  (repeat' apply And.intro)<;>first|exact True.intro|exact WkR.refl _|rfl|lia|trace_state
 intro k g
 cbv
 clear k1 k2 k3 k4
 by_cases hk:k<l.length
 ·obtain⟨x,hx⟩:∃ x,l[k]?=some x:=⟨l[k],by simp [hk]⟩
  have ha:=danswer_fn O x.answer (h4 x (List.mem_of_getElem? hx))
  have hse:=lasts_set O hx
  clear h4
  obtain⟨c,i,⟨ac,ah,ad,ads,ans,an,at',ak⟩⟩:=x
  (repeat' first|(refine Na ?_ fun _ _=>?_;(focus lia);cbv)|(refine Ex.known O (LastR.enc O) rfl hx ?_ ?_;(focus lia);cbv)|(refine CallThen.mk _ _ (C.fn (ha)) ?_;cbv)|(refine Back.up [] [] ?_ ?_ fun _ _=>?_;rotate_left 2;cbv;refine And.intro ?_ ?_)|(refine Nl fun _ _ hq=>?_;(try simp only [lenS] at hq);cbv)|(refine Nm fun _ _=>?_;cbv)|(refine Br.t ?_ ?_;(focus first|assumption|lia);cbv)|(refine Br.f ?_ ?_;(focus first|assumption|lia);cbv)|(refine Br.mk (fun _=>?_) (fun _=>?_)<;>cbv)|(refine Need.mk ?_ ?_;rotate_left;cbv)|(refine R0 ?_;cbv))
  all_goals(repeat' apply And.intro)
  all_goals try first
   | exact True.intro
   | exact WkR.refl _
   | (clear hse hx ha;lia)
  all_goals first
   | (subst_vars;exact WkR.of_eq hse.symm)
   | trace_state
 ·(repeat' first|(refine Na ?_ fun _ _=>?_;(focus lia);cbv)|(refine RetThen.mk [(0,.loc 768)] [1408] ?_;cbv)|(refine Nl fun _ _ hq=>?_;(try simp only [lenS] at hq);cbv)|(refine Nm fun _ _=>?_;cbv)|(refine Br.t ?_ ?_;(focus first|assumption|lia);cbv)|(refine Br.f ?_ ?_;(focus first|assumption|lia);cbv)|(refine Br.mk (fun _=>?_) (fun _=>?_)<;>cbv)|(refine Need.mk ?_ ?_;rotate_left;cbv)|(refine R0 ?_;cbv))
  all_goals(repeat' apply And.intro)
  all_goals first
   | exact True.intro
   | exact WkR.refl _
   | rfl
   | lia
   | (refine Nm fun _ e=>⟨.of_eq e.symm,?_⟩;cbv;done)
   | trace_state
theorem equalS_fn (O:Opq) (d e:List Sub) (hd:d.length≤1099511627776):Fn prog 161 [.sl false 0 false 2 (O.o Subs.enc d),.sl false 0 false 2 (O.o Subs.enc e)] [] [.bool (O.o sameS d e)] []:=by
 have hlen:=Subs.len O d
 have hlen2:=Subs.len O e
 obtain⟨N,hN⟩:∃ N:Nat,N=d.length:=⟨_,rfl⟩
 obtain⟨z,hz⟩:∃ z:Nat,z=0:=⟨_,rfl⟩
 refine go (fn:=Proofs.Tryz.f161) (n:=24) (rv:=[ResultVar.tmp 4]) rfl (by decide) rfl (by decide +kernel) rfl rfl (by simp) fun F L C=>?_
 cbv
 (repeat' first|(refine Na ?_ fun _ _=>?_;(focus lia);cbv)|(refine Nl fun _ _ hq=>?_;(try simp only [lenS] at hq);cbv)|(refine Nm fun _ _=>?_;cbv)|(refine Br.t ?_ ?_;(focus first|assumption|lia);cbv)|(refine Br.f ?_ ?_;(focus first|assumption|lia);cbv)|(refine Br.mk (fun _=>?_) (fun _=>?_)<;>cbv)|(refine Need.mk ?_ ?_;rotate_left;cbv)|(refine R0 ?_;cbv))
 all_goals try first
  | (refine⟨?_,trivial⟩;simp only [O.h];exact sameS_len (by lia))
 refine LoopThen.mk (C.loopAt (ι:=Nat) [(4,5),(13,25)] (fun k=>[(4,.bool false),(13,.int .i64 k)]) (fun _=>[])
  (fun k=>k≤d.length∧∀ (j:Nat),j<k→d[j]?=e[j]?) (fun k=>N-k) (by decide +kernel) (Start.mk z [] [] ⟨by lia,fun j hj=>by omega⟩ (by cbv;(repeat' apply And.intro)<;>first|exact True.intro|exact WkR.refl _|rfl|lia)) ?_)
 intro k g
 cbv
 have g1:k≤d.length:=g.1
 have g2:=g.2
 clear g
 by_cases hk:k<d.length
 ·obtain⟨x,hx⟩:∃ x,d[k]?=some x:=⟨d[k],by simp [hk]⟩
  obtain⟨y,hy⟩:∃ y,e[k]?=some y:=⟨e[k]'(by lia),by simp⟩
  have hne:x≠y→O.o sameS d e=false:=fun h=>by simp only [O.h];exact sameS_at (k:=k) (by rw[hx,hy];simpa using h)
  have hst:x=y→∀ (j:Nat),j<k+1→d[j]?=e[j]?:=fun h j hj=>by
   by_cases ej:j=k
   ·subst ej;rw[hx,hy,h]
   ·exact g2 j (by omega)
  clear g2
  obtain⟨nm,p⟩:=x
  obtain⟨nm',p'⟩:=y
  (repeat' first|(refine Na ?_ fun _ _=>?_;(focus lia);cbv)|(refine Ex.known O Sub.enc rfl hx ?_ ?_;(focus lia);cbv)|(refine Ex.known O Sub.enc rfl hy ?_ ?_;(focus lia);cbv)|(refine Back.up [] [] ?_ ?_ fun _ _=>?_;rotate_left 2;cbv;refine And.intro ?_ ?_)|(refine Nl fun _ _ hq=>?_;(try simp only [lenS] at hq);cbv)|(refine Nm fun _ _=>?_;cbv)|(refine Br.t ?_ ?_;(focus first|assumption|lia);cbv)|(refine Br.f ?_ ?_;(focus first|assumption|lia);cbv)|(refine Br.mk (fun _=>?_) (fun _=>?_)<;>cbv)|(refine Need.mk ?_ ?_;rotate_left;cbv)|(refine R0 ?_;cbv))
  all_goals(repeat' apply And.intro)
  all_goals try first
   | exact True.intro
   | exact WkR.refl _
   | (clear hx hy hne hst;lia)
  all_goals first
   | (refine hne fun h=>?_;simp only [Sub.mk.injEq] at h;clear hx hy hst;simp_all;done)
   | (refine hst ?_;simp only [Sub.mk.injEq];clear hx hy hne hst;simp_all;done)
   | trace_state
 ·(repeat' first|(refine Na ?_ fun _ _=>?_;(focus lia);cbv)|(refine Nl fun _ _ hq=>?_;(try simp only [lenS] at hq);cbv)|(refine Nm fun _ _=>?_;cbv)|(refine Br.t ?_ ?_;(focus first|assumption|lia);cbv)|(refine Br.f ?_ ?_;(focus first|assumption|lia);cbv)|(refine Br.mk (fun _=>?_) (fun _=>?_)<;>cbv)|(refine Need.mk ?_ ?_;rotate_left;cbv)|(refine R0 ?_;cbv))
  all_goals(repeat' apply And.intro)
  all_goals try first
   | exact True.intro
   | lia
  all_goals
   simp only [O.h]
   exact sameS_all (by clear g2;lia) fun j hj=>g2 j (by clear g2;lia)
theorem same1_fn (O:Opq) (x y:Change) (hx:x.doc.length≤1099511627776):Fn prog 162 [.agg (x.enc O),.agg (y.enc O)] [] [.bool (O.o sameCh1 x y)] []:=by
 obtain⟨p,key,has,doc⟩:=x
 obtain⟨p',key',has',doc'⟩:=y
 have hne:(⟨p,key,has,doc⟩:Change)≠⟨p',key',has',doc'⟩→O.o sameCh1 ⟨p,key,has,doc⟩ ⟨p',key',has',doc'⟩=false:=fun h=>by simp only [O.h];exact sameCh1_no h
 have heq:(⟨p,key,has,doc⟩:Change)=⟨p',key',has',doc'⟩→O.o sameCh1 ⟨p,key,has,doc⟩ ⟨p',key',has',doc'⟩=true:=fun h=>by simp only [O.h];exact sameCh1_iff.2 h
 have hsd:O.o sameDoc doc doc'=true ↔ doc=doc':=by rw[O.h];exact sameDoc_iff
 cases has<;>cases has'
 all_goals
  refine go (fn:=Proofs.Tryz.f162) (n:=29) (rv:=[ResultVar.tmp 4]) rfl (by decide) rfl (by decide +kernel) rfl rfl (by simp) fun F L C=>?_
  cbv
  (repeat' first|(refine Na ?_ fun _ _=>?_;(focus lia);cbv)|(refine CallThen.bool (C.fn (same_fn O doc doc' hx)) (fun _=>?_) (fun _=>?_)<;>cbv)|(refine Nl fun _ _ hq=>?_;(try simp only [lenS] at hq);cbv)|(refine Nm fun _ _=>?_;cbv)|(refine Br.t ?_ ?_;(focus first|assumption|lia);cbv)|(refine Br.f ?_ ?_;(focus first|assumption|lia);cbv)|(refine Br.mk (fun _=>?_) (fun _=>?_)<;>cbv)|(refine Need.mk ?_ ?_;rotate_left;cbv)|(refine R0 ?_;cbv))
  all_goals refine⟨?_,trivial⟩
  all_goals first
   | (refine hne fun h=>?_;cases h;clear hne heq;simp_all;done)
   | (refine hne fun h=>?_;simp only [Change.mk.injEq] at h;clear hne heq;grind)
   | (refine heq ?_;simp only [Change.mk.injEq];clear hne heq;grind)
   | trace_state
theorem equalC_fn (O:Opq) (d e:List Change) (hd:d.length≤1099511627776) (hdd:∀ c∈d,c.doc.length≤1099511627776):Fn prog 127 [.sl false 0 false 4 (O.o (Chs.enc O) d),.sl false 0 false 4 (O.o (Chs.enc O) e),.fn 162 [] []] [] [.bool (O.o sameC d e)] []:=by
 have hlen:=Chs.len O d
 have hlen2:=Chs.len O e
 obtain⟨N,hN⟩:∃ N:Nat,N=d.length:=⟨_,rfl⟩
 obtain⟨z,hz⟩:∃ z:Nat,z=0:=⟨_,rfl⟩
 refine go (fn:=Proofs.Tryz.f127) (n:=29) (rv:=[ResultVar.tmp 6]) rfl (by decide) rfl (by decide +kernel) rfl rfl (by simp) fun F L C=>?_
 cbv
 (repeat' first|(refine Na ?_ fun _ _=>?_;(focus lia);cbv)|(refine Nl fun _ _ hq=>?_;(try simp only [lenS] at hq);cbv)|(refine Nm fun _ _=>?_;cbv)|(refine Br.t ?_ ?_;(focus first|assumption|lia);cbv)|(refine Br.f ?_ ?_;(focus first|assumption|lia);cbv)|(refine Br.mk (fun _=>?_) (fun _=>?_)<;>cbv)|(refine Need.mk ?_ ?_;rotate_left;cbv)|(refine R0 ?_;cbv))
 all_goals try first
  | (refine⟨?_,trivial⟩;simp only [O.h];exact sameC_len (by lia))
 refine LoopThen.mk (C.loopAt (ι:=Nat) [(6,9),(17,31)] (fun k=>[(6,.bool false),(17,.int .i64 k)]) (fun _=>[])
  (fun k=>k≤d.length∧∀ (j:Nat),j<k→d[j]?=e[j]?) (fun k=>N-k) (by decide +kernel) (Start.mk z [] [] ⟨by lia,fun j hj=>by omega⟩ (by cbv;(repeat' apply And.intro)<;>first|exact True.intro|exact WkR.refl _|rfl|lia)) ?_)
 intro k g
 cbv
 have g1:k≤d.length:=g.1
 have g2:=g.2
 clear g
 by_cases hk:k<d.length
 ·obtain⟨x,hx⟩:∃ x,d[k]?=some x:=⟨d[k],by simp [hk]⟩
  obtain⟨y,hy⟩:∃ y,e[k]?=some y:=⟨e[k]'(by lia),by simp⟩
  have hxd:=hdd x (List.mem_of_getElem? hx)
  have hne:x≠y→O.o sameC d e=false:=fun h=>by simp only [O.h];exact sameC_at (k:=k) (by rw[hx,hy];simpa using h)
  have hst:x=y→∀ (j:Nat),j<k+1→d[j]?=e[j]?:=fun h j hj=>by
   by_cases ej:j=k
   ·subst ej;rw[hx,hy,h]
   ·exact g2 j (by omega)
  have hso:O.o sameCh1 x y=true ↔ x=y:=by rw[O.h];exact sameCh1_iff
  clear g2 hdd
  (repeat' first|(refine Na ?_ fun _ _=>?_;(focus lia);cbv)|(refine Ex.known O (Change.enc O) rfl hx ?_ ?_;(focus lia);cbv)|(refine Ex.known O (Change.enc O) rfl hy ?_ ?_;(focus lia);cbv)|(refine CallThen.bool (C.fn (same1_fn O x y hxd)) (fun _=>?_) (fun _=>?_)<;>cbv)|(refine Back.up [] [] ?_ ?_ fun _ _=>?_;rotate_left 2;cbv;refine And.intro ?_ ?_)|(refine Nl fun _ _ hq=>?_;(try simp only [lenS] at hq);cbv)|(refine Nm fun _ _=>?_;cbv)|(refine Br.t ?_ ?_;(focus first|assumption|lia);cbv)|(refine Br.f ?_ ?_;(focus first|assumption|lia);cbv)|(refine Br.mk (fun _=>?_) (fun _=>?_)<;>cbv)|(refine Need.mk ?_ ?_;rotate_left;cbv)|(refine R0 ?_;cbv))
  all_goals(repeat' apply And.intro)
  all_goals try first
   | exact True.intro
   | exact WkR.refl _
   | (clear hx hy hne hst hso;lia)
  all_goals first
   | (refine hne fun h=>?_;rename_i hh;have hh:O.o sameCh1 x y=false:=hh;rw[hso.2 h] at hh;cases hh;done)
   | (refine hst (hso.1 ?_);assumption)
   | trace_state
 ·(repeat' first|(refine Na ?_ fun _ _=>?_;(focus lia);cbv)|(refine Nl fun _ _ hq=>?_;(try simp only [lenS] at hq);cbv)|(refine Nm fun _ _=>?_;cbv)|(refine Br.t ?_ ?_;(focus first|assumption|lia);cbv)|(refine Br.f ?_ ?_;(focus first|assumption|lia);cbv)|(refine Br.mk (fun _=>?_) (fun _=>?_)<;>cbv)|(refine Need.mk ?_ ?_;rotate_left;cbv)|(refine R0 ?_;cbv))
  all_goals(repeat' apply And.intro)
  all_goals try first
   | exact True.intro
   | lia
  all_goals
   simp only [O.h]
   exact sameC_all (by clear g2;lia) fun j hj=>g2 j (by clear g2;lia)
theorem fsame_fn (O:Opq) (f g:Feed) (hd:f.changes.length≤1099511627776) (hs:f.subs.length≤1099511627776) (hdd:∀ c∈f.changes,c.doc.length≤1099511627776):Fn prog 96 [.agg (f.enc O),.agg (g.enc O)] [] [.bool (O.o sameF f g)] []:=by
 have hne:f≠g→O.o sameF f g=false:=fun h=>by simp only [O.h];exact sameF_no h
 have heq:f=g→O.o sameF f g=true:=fun h=>by simp only [O.h];exact sameF_iff.2 h
 have hss:O.o sameS f.subs g.subs=true ↔ f.subs=g.subs:=by rw[O.h];exact sameS_iff
 have hsc:O.o sameC f.changes g.changes=true ↔ f.changes=g.changes:=by rw[O.h];exact sameC_iff
 have hpa:=sameF_parts (f:=f) (g:=g)
 refine go (fn:=Proofs.Tryz.f96) (n:=29) (rv:=[ResultVar.tmp 4]) rfl (by decide) rfl (by decide +kernel) rfl rfl (by simp) fun F L C=>?_
 cbv
 (repeat' first|(refine Na ?_ fun _ _=>?_;(focus lia);cbv)|(refine CallThen.bool (C.fn (equalS_fn O f.subs g.subs hs)) (fun _=>?_) (fun _=>?_)<;>cbv)|(refine CallThen.bool (C.fn (equalC_fn O f.changes g.changes hd hdd)) (fun _=>?_) (fun _=>?_)<;>cbv)|(refine Nl fun _ _ hq=>?_;(try simp only [lenS] at hq);cbv)|(refine Nm fun _ _=>?_;cbv)|(refine Br.t ?_ ?_;(focus first|assumption|lia);cbv)|(refine Br.f ?_ ?_;(focus first|assumption|lia);cbv)|(refine Br.mk (fun _=>?_) (fun _=>?_)<;>cbv)|(refine Need.mk ?_ ?_;rotate_left;cbv)|(refine R0 ?_;cbv))
 all_goals refine⟨?_,trivial⟩
 all_goals first
  | (refine hne fun h=>?_;rw[hpa] at h;clear hdd hne heq;grind)
  | (refine heq (hpa.2 ?_);clear hdd hne heq;grind)
  | trace_state
end Go.Sym
