/- Entries: a document's; index.Build. -/
import Derived.Test.YtjlefaabcalkkaaGreatDoorK28
import Derived.Test.YtjlefaabcalkkaaGreatDoorK29
set_option linter.all false
set_option linter.unusedVariables false
set_option linter.unusedSimpArgs false
namespace Go.Sym
open Go Go.Proofs.Tryz
set_option maxRecDepth 100000
theorem entry_fn (O:Opq) (defs:List Nd) (hdef:(∀ x∈defs,NdS x)∧defs.length≤4) (k:ByteArray) (d:Doc) (hd:d.length≤1099511627776) :
  Fn prog 33 [.sl false 0 false 4 (O.o Nds.enc defs),.str k,.sl false 0 false 6 (O.o Doc.enc d)] [] [.agg (PairK.enc (O.o (entP defs k) d)),.bool (O.o (eallB d) defs)] []:=by
 have k1:=eevalall_fn O d hd (l:=defs) (by omega) hdef.1
 have hk:=eallL_ok d defs
 have k2:=rkKey_fn O (eallL d defs) hk.1 (by omega)
 rw[O.h (eallL d),O.h (eallB d)] at k1
 rw[O.h (entP defs k),O.h (eallB d),entP]
 rw[O.h keyB] at k2
 have hS:O.o ofL (keyB (eallL d defs))=ofL (keyB (eallL d defs)):=by rw[O.h]
 obtain⟨S,eS⟩:∃ S,S=ofL (keyB (eallL d defs)):=⟨_,rfl⟩
 rw[hS,← eS] at k2
 rw[← eS]
 obtain⟨V,eV⟩:∃ V,V=eallL d defs:=⟨_,rfl⟩
 obtain⟨B,eB⟩:∃ V,V=eallB d defs:=⟨_,rfl⟩
 rw[← eV] at k1 k2
 rw[← eB] at k1 ⊢
 clear hS eS eV eB hk hdef
 refine go (fn:=Proofs.Tryz.f33) (n:=24) (rv:=[ResultVar.cell 6 72,ResultVar.tmp 7]) rfl (by decide) rfl (by decide +kernel) rfl rfl (by simp) fun F L C=>?_
 cbv
 (repeat' first|(refine CallThen.mk _ _ (C.fn (k1)) ?_;cbv)|(refine CallThen.mk _ _ (C.fn (k2)) ?_;cbv)|(refine R0 ?_;cbv))
 all_goals first
  | exact⟨rfl,rfl,trivial⟩
  | ((repeat' apply And.intro)<;>first|exact True.intro|rfl)
  | trace_state
theorem ibuild_err1 (O:Opq) (S:List UInt8) (hS:S.length≤1099511627776) (docs:List Ndoc) (h:allE S≠0) :
  Fn prog 11 [.str (O.o ofL S),.sl false 0 false 2 (O.o (Nms.enc O) docs)] [] [.nils,.int .i64 (allE S)] []:=by
 have k1:=eall_fn O S hS
 rw[O.h allE] at k1
 obtain⟨V,eV⟩:∃ V,V=O.o Nds.enc (O.o allV S):=⟨_,rfl⟩
 rw[← eV] at k1
 obtain⟨E,eE⟩:∃ V,V=allE S:=⟨_,rfl⟩
 rw[← eE] at k1 h ⊢
 clear eV eE
 refine go (fn:=Proofs.Tryz.f11) (n:=46) (rv:=[ResultVar.tmp 4,ResultVar.tmp 5]) rfl (by decide) rfl (by decide +kernel) rfl rfl (by simp) fun F L C=>?_
 cbv
 (repeat' first|(refine CallThen.mk _ _ (C.fn (k1)) ?_;cbv)|(refine Br.f ?_ ?_;(focus first|assumption|lia);cbv)|(refine R0 ?_;cbv))
 all_goals first
  | exact⟨rfl,trivial⟩
  | exact⟨rfl,rfl,trivial⟩
  | (clear k1;lia)
  | trace_state
theorem ibuild_err2 (O:Opq) (S:List UInt8) (hS:S.length≤1099511627776) (docs:List Ndoc) (hl:docs.length≤1099511627776) (hd:∀ n∈docs,n.doc.length≤1099511627776) (h:allE S=0) (h2:docsOk docs≠true) :
  Fn prog 11 [.str (O.o ofL S),.sl false 0 false 2 (O.o (Nms.enc O) docs)] [] [.nils,.int .i64 1] []:=by
 have k1:=eall_fn O S hS
 have k2:=idocs_fn O docs hl hd
 rw[O.h docsErr,docsErr,if_neg h2] at k2
 rw[O.h allE,h] at k1
 obtain⟨V,eV⟩:∃ V,V=O.o Nds.enc (O.o allV S):=⟨_,rfl⟩
 rw[← eV] at k1
 clear eV h h2
 refine go (fn:=Proofs.Tryz.f11) (n:=46) (rv:=[ResultVar.tmp 4,ResultVar.tmp 5]) rfl (by decide) rfl (by decide +kernel) rfl rfl (by simp) fun F L C=>?_
 cbv
 (repeat' first|(refine CallThen.mk _ _ (C.fn (k1)) ?_;cbv)|(refine CallThen.mk _ _ (C.fn (k2)) ?_;cbv)|(refine Br.t ?_ ?_;(focus first|assumption|lia);cbv)|(refine Br.f ?_ ?_;(focus first|assumption|lia);cbv)|(refine R0 ?_;cbv))
 all_goals first
  | exact⟨rfl,trivial⟩
  | exact⟨rfl,rfl,trivial⟩
  | (clear k1 k2;lia)
  | trace_state
set_option maxHeartbeats 4000000 in
theorem ibuild_ok (O:Opq) (S:List UInt8) (hS:S.length≤1099511627776) (docs:List Ndoc) (hl:docs.length≤255) (hd:∀ n∈docs,n.doc.length≤1099511627776) (h:allE S=0) (h2:docsOk docs=true) :
  Fn prog 11 [.str (O.o ofL S),.sl false 0 false 2 (O.o (Nms.enc O) docs)] [] [.sl false 0 false 2 (O.o Prs.enc (idxSort (entsL (allV S) docs))),.int .i64 0] []:=by
 have k1:=eall_fn O S hS
 have k2:=idocs_fn O docs (by omega) hd
 rw[O.h docsErr,docsErr,if_pos h2] at k2
 rw[O.h allE,h] at k1
 have hdef:=allV_small S
 rw[O.h allV] at k1
 obtain⟨D,eD⟩:∃ D,D=allV S:=⟨_,rfl⟩
 rw[← eD] at k1 hdef ⊢
 clear eD
 have hE2:=fun k x (h:docs[k]?=some x)=>entsL_snoc (defs:=D) h
 have hEl:∀ k,(entsL D (docs.take k)).length≤docs.length:=fun k=>Nat.le_trans (entsL_len _ _) (by rw[List.length_take];exact Nat.min_le_right _ _)
 have hEe:entsL D (docs.take docs.length)=entsL D docs:=by rw[List.take_length]
 obtain⟨E,hE⟩:∃ E:Nat→Array PairK,E=fun k=>(entsL D (docs.take k)).toArray:=⟨_,rfl⟩
 have hE0:O.o arrE (E 0)=[]:=by rw[hE];simp only [O.h];rfl
 have hEl:∀ k,(E k).size≤docs.length:=fun k=>by rw[hE];simpa using hEl k
 have hEe:E docs.length=(entsL D docs).toArray:=by rw[hE];simp only [hEe]
 have hyes:∀ k x,docs[k]?=some x→O.o (eallB x.doc) D=true→O.o arrE (E k)++[PairK.enc (O.o (entP D x.key) x.doc)]=O.o arrE (E (k+1)):=fun k x h hb=>by
  rw[O.h] at hb
  have:=hE2 k x h
  rw[if_pos hb] at this
  rw[hE,O.h (entP D x.key)]
  simp only [this,O.h,arrE,Prs.enc,List.map_append,List.map_cons,List.map_nil]
 have hno:∀ k x,docs[k]?=some x→O.o (eallB x.doc) D=false→O.o arrE (E k)=O.o arrE (E (k+1)):=fun k x h hb=>by
  rw[O.h] at hb
  have:=hE2 k x h
  rw[if_neg (by rw[hb];simp)] at this
  rw[hE]
  simp only [this]
 have hEnd:O.o arrE (Go.Sort.sort ltP (E docs.length))=O.o Prs.enc (idxSort (entsL D docs)):=by rw[hEe];simp only [O.h];rfl
 have ksort:=sortFunc_fn O (E docs.length) (Nat.le_trans (hEl _) hl)
 rw[hEnd] at ksort
 obtain⟨RR,hRR⟩:∃ R,R=O.o Prs.enc (idxSort (entsL D docs)):=⟨_,rfl⟩
 rw[← hRR] at ksort ⊢
 clear hE2 hE hEe hEnd hRR h h2
 have hnl:=Nms.len O docs
 obtain⟨z,hz⟩:∃ z:Nat,z=0:=⟨_,rfl⟩
 rw[← hz] at hE0
 obtain⟨NN,hNN⟩:∃ N:Nat,N=docs.length:=⟨_,rfl⟩
 obtain⟨VD,hVD⟩:∃ V,V=O.o Nds.enc D:=⟨_,rfl⟩
 have hent:=fun k d h=>entry_fn O D hdef k d h
 rw[← hVD] at k1 hent
 clear hVD hdef
 refine go (fn:=Proofs.Tryz.f11) (n:=46) (rv:=[ResultVar.tmp 4,ResultVar.tmp 5]) rfl (by decide) rfl (by decide +kernel) rfl rfl (by simp) fun F L C=>?_
 cbv
 (repeat' first|(refine CallThen.mk _ _ (C.fn (k1)) ?_;cbv)|(refine CallThen.mk _ _ (C.fn (k2)) ?_;cbv)|(refine Nm fun _ _=>?_;cbv)|(refine Br.t ?_ ?_;(focus first|assumption|lia);cbv))
 all_goals try(clear k1 k2 hent hyes hno ksort hE0 hEl hd;lia)
 refine LoopThen.mk (C.loopAt (ι:=Nat) [(8,12),(24,47)] (fun k=>[(8,.ref 50),(24,.sl false 0 false 2 (O.o (Nms.enc O) docs)),(25,.int .i64 NN),(26,.int .i64 k)]) (fun k=>[(50,.arr 0 none 2 (O.o arrE (E k)))])
  (fun k=>k≤NN) (fun k=>NN-k) (by decide +kernel) (Start.mk z [(50,.nil 2)] [] (show z≤NN by omega) ?_) ?_)
 ·cbv
  (repeat' apply And.intro)<;>first|exact True.intro|exact WkR.refl _|exact hE0|exact WkR.of_eq hE0|rfl|(clear k1 k2 hent hyes hno ksort hE0 hEl hd;lia)|trace_state
 clear hE0 hz k1 k2
 intro k g
 cbv
 replace g:k≤NN:=g
 by_cases hk:k<docs.length
 ·obtain⟨x,hx⟩:∃ x,docs[k]?=some x:=⟨docs[k],by simp [hk]⟩
  have ke:=hent x.key x.doc (hd x (List.mem_of_getElem? hx))
  have hyes:=hyes k x hx
  have hno:=hno k x hx
  have hEk:=hEl k
  have hEk1:=hEl (k+1)
  have hal:=arrE_len O (E k)
  obtain⟨B,hB⟩:∃ B,B=O.o (eallB x.doc) D:=⟨_,rfl⟩
  obtain⟨P,hP⟩:∃ P,P=O.o (entP D x.key) x.doc:=⟨_,rfl⟩
  rw[← hB] at ke hyes hno
  rw[← hP] at ke hyes
  clear hB hP hent ksort hEl hd
  obtain⟨xa,xb⟩:=x
  obtain⟨pa,pb⟩:=P
  cases B
  ·have hno:=hno rfl
   clear hyes
   (repeat' first|(refine Na ?_ fun _ _=>?_;(focus lia);cbv)|(refine Ex.known O (Ndoc.enc O) rfl hx ?_ ?_;(focus lia);cbv)|(refine CallThen.mk _ _ (C.fn (ke)) ?_;cbv)|(refine Back.to (k+1) [] [] ?_ fun _ _=>?_;rotate_left;cbv)|(refine Br.t ?_ ?_;(focus first|assumption|lia);cbv))
   all_goals first
    | exact⟨by omega,by dsimp only;omega⟩
    | (rename_i y hy;subst hy;(repeat' apply And.intro)<;>first|exact True.intro|exact WkR.refl _|exact WkR.of_eq hno|exact WkR.of_eq hno.symm|rfl|(clear ke hno hx;lia))
    | (clear ke hno hx;lia)
    | trace_state
  ·have hyes:=hyes rfl
   clear hno
   obtain⟨X,hX⟩:∃ X,X=O.o arrE (E (k+1)):=⟨_,rfl⟩
   rw[← hX] at hyes
   (repeat' first|(refine Named.val X hyes ?_;cbv)|(refine Na ?_ fun _ _=>?_;(focus lia);cbv)|(refine Ex.known O (Ndoc.enc O) rfl hx ?_ ?_;(focus lia);cbv)|(refine CallThen.mk _ _ (C.fn (ke)) ?_;cbv)|(refine Back.to (k+1) [(50,.loc 2880)] [] ?_ fun _ _=>?_;rotate_left;cbv)|(refine Br.t ?_ ?_;(focus first|assumption|lia);cbv)|(refine Need.mk ?_ ?_;rotate_left;cbv))
   all_goals first
    | exact⟨by omega,by dsimp only;omega⟩
    | (rename_i y hy;subst hy;(repeat' apply And.intro)<;>first|exact True.intro|exact WkR.refl _|exact WkR.of_eq hX|exact WkR.of_eq hX.symm|rfl|(clear ke hyes hX hx;lia))
    | ((try simp only [List.length_cons,List.length_nil]);clear ke hyes hX hx;lia)
    | trace_state
 ·have hkn:k=docs.length:=by omega
  rw[← hkn] at ksort
  clear hent hyes hno hEl hd
  (repeat' first|(refine CallThen.mk _ _ (C.fn (ksort)) ?_;cbv)|(refine RetThen.mk [] [50] ?_;cbv)|(refine Nl fun _ _ hq=>?_;(try simp only [lenS] at hq);cbv)|(refine Br.f ?_ ?_;(focus first|assumption|lia);cbv))
  all_goals first
   | (rename_i R eR;subst eR;exact⟨.refl _,trivial⟩)
   | (clear ksort;lia)
   | trace_state
theorem one11_fn (O:Opq) (n:Int):Fn prog 31 [.int .i64 n] [] [.ref 0] [.arr 2 none 6 [[.str aB,.int .i64 1,.int .i64 n,.str ByteArray.empty,.int .i64 0,.int .i64 0]]]:=by
 refine go (fn:=Proofs.Tryz.f31) (n:=6) (rv:=[ResultVar.tmp 2]) rfl (by decide) rfl (by decide +kernel) rfl rfl (by simp) fun F L C=>?_
 cbv
 (repeat' first|(refine RetThen.mk [(0,.loc 512)] [] ?_;cbv))
 all_goals exact⟨.refl _,trivial⟩
theorem awake11_fn (O:Opq):Fn prog 10 [] [] [.bool true] []:=by
 have k1:=ibuild_ok O [97] (by decide) docs0 (by decide) (fun n hn=>by simp [docs0] at hn;rcases hn with rfl|rfl|rfl<;>decide) all_a.1 docs0_ok
 rw[all_a.2,ents0] at k1
 have e1:O.o ofL [97]=aB:=by rw[O.h];rfl
 have e2:O.o (Nms.enc O) docs0=[[.str xB,.sl false 0 false 6 [[.str aB,.int .i64 1,.int .i64 2,.str ByteArray.empty,.int .i64 0,.int .i64 0]]],[.str yB,.sl false 0 false 6 [[.str aB,.int .i64 1,.int .i64 1,.str ByteArray.empty,.int .i64 0,.int .i64 0]]],[.str zB,.sl false 0 false 6 []]]:=by
  rw[O.h (Nms.enc O)]
  show[[PV.str xB,.sl false 0 false 6 (O.o Doc.enc (oneD 2))],[.str yB,.sl false 0 false 6 (O.o Doc.enc (oneD 1))],[.str zB,.sl false 0 false 6 (O.o Doc.enc [])]]=_
  simp only [O.h];rfl
 have e3:O.o Prs.enc [⟨kB 1,yB⟩,⟨kB 2,xB⟩]=[[.str (kB 1),.str yB],[.str (kB 2),.str xB]]:=by rw[O.h];rfl
 rw[e1,e2,e3] at k1
 obtain⟨K1,h1⟩:∃ K,K=kB 1:=⟨_,rfl⟩
 obtain⟨K2,h2⟩:∃ K,K=kB 2:=⟨_,rfl⟩
 rw[← h1,← h2] at k1
 clear e1 e2 e3 h1 h2
 have ko:=one11_fn O
 have k2:=Fn.wkA k1 (args':=[.str aB,.sl false 2 false 2 [[.str xB,.sl false 2 false 6 [[.str aB,.int .i64 1,.int .i64 2,.str ByteArray.empty,.int .i64 0,.int .i64 0]]],[.str yB,.sl false 2 false 6 [[.str aB,.int .i64 1,.int .i64 1,.str ByteArray.empty,.int .i64 0,.int .i64 0]]],[.str zB,.nils]]])
  (.cons (.refl _) (.cons (.wk (Wk.sl' rfl rfl (WkR.cons (.cons (.refl _) (.cons (Wk.sl' rfl rfl (WkR.refl _)) (.refl _))) (WkR.cons (.cons (.refl _) (.cons (Wk.sl' rfl rfl (WkR.refl _)) (.refl _))) (WkR.cons (.cons (.refl _) (.cons (Wk.nil _ _) (.refl _))) (.refl _)))))) .nil))
 clear k1
 refine goM (modeOf 11 [.bor,.keep]) (fn:=Proofs.Tryz.f10) (n:=34) (rv:=[ResultVar.tmp 0]) rfl (by decide) rfl (by decide +kernel) rfl rfl (by simp) fun F L C=>?_
 cbv
 (repeat' first|(refine CallThen.mk _ _ (C.fn (ko _)) ?_;cbv)|(refine CallThen.mk _ _ (C.fn (k2)) ?_;cbv)|(refine Ex.mk [.str K1,.str yB] ⟨by decide,rfl⟩ ?_;cbv)|(refine Ex.mk [.str K2,.str xB] ⟨by decide,rfl⟩ ?_;cbv)|(refine Nm fun _ _=>?_;cbv)|(refine Br.t ?_ ?_;(focus first|assumption|lia);cbv)|(refine R0 ?_;cbv))
 all_goals trace_state
 all_goals sorry
end Go.Sym
