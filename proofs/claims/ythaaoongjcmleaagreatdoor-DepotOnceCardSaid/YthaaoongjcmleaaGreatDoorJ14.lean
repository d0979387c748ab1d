/- Cells of a kind. -/
import Derived.Test.YthaaoongjcmleaaGreatDoorJ6
import Derived.Test.YthaaoongjcmleaaGreatDoorJ8
import Derived.Test.YthaaoongjcmleaaGreatDoorJ10
import Derived.Test.YthaaoongjcmleaaGreatDoorJ13
set_option linter.all false
set_option linter.unusedVariables false
set_option linter.unusedSimpArgs false
namespace Go.Sym
open Go Go.Proofs.Tryz
set_option maxRecDepth 100000
theorem idxCel_fn (O:Opq) (g:Nat) (q:Cel→Bool) (l:List Cel) (r:List (List PV)) (er:r=Cels.enc l) (hl:l.length≤1099511627776) (hg:∀ e∈l,Fn prog g [.agg e.enc] [] [.bool (O.o q e)] []):Fn prog 318 [.sl false 0 false 4 r,.fn g [] []] [] [.int .i64 (O.o (findI q) l)] []:=by
 have hl1:r.length=l.length:=by rw[er,Cels.enc_len]
 obtain⟨N,hN⟩:∃ N:Nat,N=l.length:=⟨_,rfl⟩
 obtain⟨z,hz⟩:∃ z:Nat,z=0:=⟨_,rfl⟩
 refine go (fn:=Proofs.Tryz.f318) (n:=17) (rv:=[ResultVar.tmp 4]) rfl (by decide) rfl (by decide +kernel) rfl rfl (by simp) fun F L C=>?_
 cbv
 (repeat' first|(refine Na ?_ fun _ _=>?_;(focus lia);cbv)|(refine Nl fun _ _ hq=>?_;(try simp only [lenS] at hq);cbv)|(refine Nm fun _ _=>?_;cbv)|(refine Br.t ?_ ?_;(focus first|assumption|lia);cbv)|(refine Br.f ?_ ?_;(focus first|assumption|lia);cbv)|(refine Br.mk (fun _=>?_) (fun _=>?_)<;>cbv)|(refine Need.mk ?_ ?_;rotate_left;cbv)|(refine R0 ?_;cbv))
 refine LoopThen.mk (C.loopAt (ι:=Nat) [(4,5),(8,18)] (fun k=>[(4,.int .i64 0),(8,.int .i64 k)]) (fun _=>[])
  (fun k=>k≤l.length∧∀ (j:Nat) y,j<k→l[j]?=some y→q y=false) (fun k=>N-k) (by decide +kernel) (Start.mk z [] [] ⟨by lia,fun j y hj=>by omega⟩ (by cbv;(repeat' apply And.intro)<;>first|exact True.intro|exact WkR.refl _|rfl|lia)) ?_)
 intro i g0
 cbv
 have g1:i≤l.length:=g0.1
 have g2:=g0.2
 clear g0
 by_cases hi:i<l.length
 ·obtain⟨x,hx⟩:∃ x,l[i]?=some x:=⟨l[i],by simp [hi]⟩
  have rx:r[i]?=some x.enc:=by rw[er,Cels.enc_map,List.getElem?_map,hx];rfl
  have hc:=hg x (List.mem_of_getElem? hx)
  have hyes:O.o q x=true→O.o (findI q) l=i:=fun h=>by simp only [O.h] at h ⊢;exact findI_at hx h g2
  have hst:O.o q x=false→∀ (j:Nat) y,j<i+1→l[j]?=some y→q y=false:=fun h=>by rw[O.h] at h;exact srch_step g2 hx h
  obtain⟨B,eB⟩:∃ B,B=O.o q x:=⟨_,rfl⟩
  rw[← eB] at hc hyes hst
  obtain⟨kx,mx,tx,lx⟩:=x
  obtain⟨sx,esx⟩:∃ e,e=Cels.enc lx:=⟨_,rfl⟩
  rw[show Cel.enc (.mk kx mx tx lx)=[.int .i64 kx,.int .i64 mx,.str tx,.sl false 0 false 4 sx] by rw[Cel.enc,esx]] at rx hc
  clear er g2 hg
  (repeat' first|(refine Na ?_ fun _ _=>?_;(focus lia);cbv)|(refine Ex.at [.int .i64 kx,.int .i64 mx,.str tx,.sl false 0 false 4 sx] ⟨by clear rx hst hyes hx hc;lia,rx⟩ ?_;cbv)|(refine CallThen.bool (C.fn (hc)) (fun _=>?_) (fun _=>?_)<;>cbv)|(refine Back.up [] [] ?_ ?_ fun _ _=>?_;rotate_left 2;cbv;refine And.intro ?_ ?_)|(refine Nl fun _ _ hq=>?_;(try simp only [lenS] at hq);cbv)|(refine Nm fun _ _=>?_;cbv)|(refine Br.t ?_ ?_;(focus first|assumption|lia);cbv)|(refine Br.f ?_ ?_;(focus first|assumption|lia);cbv)|(refine Br.mk (fun _=>?_) (fun _=>?_)<;>cbv)|(refine Need.mk ?_ ?_;rotate_left;cbv)|(refine R0 ?_;cbv))
  all_goals(repeat' apply And.intro)
  all_goals try first
   | exact True.intro
   | exact WkR.refl _
   | (clear rx hst hyes hx hc;lia)
  all_goals first
   | exact hyes (by assumption)
   | exact hst (by assumption)
   | trace_state
 ·(repeat' first|(refine Na ?_ fun _ _=>?_;(focus lia);cbv)|(refine Nl fun _ _ hq=>?_;(try simp only [lenS] at hq);cbv)|(refine Nm fun _ _=>?_;cbv)|(refine Br.t ?_ ?_;(focus first|assumption|lia);cbv)|(refine Br.f ?_ ?_;(focus first|assumption|lia);cbv)|(refine Br.mk (fun _=>?_) (fun _=>?_)<;>cbv)|(refine Need.mk ?_ ?_;rotate_left;cbv)|(refine R0 ?_;cbv))
  all_goals try(clear er g2 hg;lia)
  all_goals
   refine⟨?_,trivial⟩
   simp only [O.h]
   exact findI_none fun j y hj hy=>g2 j y (by omega) hy
theorem contCel_fn (O:Opq) (g:Nat) (q:Cel→Bool) (l:List Cel) (r:List (List PV)) (er:r=Cels.enc l) (hl:l.length≤1099511627776) (hg:∀ e∈l,Fn prog g [.agg e.enc] [] [.bool (O.o q e)] []):Fn prog 308 [.sl false 0 false 4 r,.fn g [] []] [] [.bool (decide (0≤O.o (findI q) l))] []:=by
 have hi:=idxCel_fn O g q l r er hl hg
 clear hg er
 obtain⟨w,hw⟩:∃ w,w=O.o (findI q) l:=⟨_,rfl⟩
 rw[← hw] at hi ⊢
 obtain⟨B,eB⟩:∃ B,B=decide (0≤w):=⟨_,rfl⟩
 rw[← eB]
 refine go (fn:=Proofs.Tryz.f308) (n:=7) (rv:=[ResultVar.tmp 4]) rfl (by decide) rfl (by decide +kernel) rfl rfl (by simp) fun F L C=>?_
 cbv
 (repeat' first|(refine Na ?_ fun _ _=>?_;(focus lia);cbv)|(refine CallThen.mk _ _ (C.fn (hi)) ?_;cbv)|(refine Nl fun _ _ hq=>?_;(try simp only [lenS] at hq);cbv)|(refine Nm fun _ _=>?_;cbv)|(refine Br.t ?_ ?_;(focus first|assumption|lia);cbv)|(refine Br.f ?_ ?_;(focus first|assumption|lia);cbv)|(refine Br.mk (fun _=>?_) (fun _=>?_)<;>cbv)|(refine Need.mk ?_ ?_;rotate_left;cbv)|(refine R0 ?_;cbv))
 all_goals refine⟨?_,trivial⟩
 all_goals first
  | (rw[eB,decide_eq_true_eq];assumption)
  | (rw[eB,decide_eq_false_iff_not];assumption)
  | trace_state
theorem pure1_fn (O:Opq) (e:Cel) (h:Fn prog 290 [.agg e.enc] [] [.bool (O.o pureC e)] []):Fn prog 309 [.agg e.enc] [] [.bool (O.o notPure e)] []:=by
 have hq:O.o notPure e=!(O.o pureC e):=by simp only [O.h];rfl
 rw[hq]
 obtain⟨B,eB⟩:∃ B,B=O.o pureC e:=⟨_,rfl⟩
 rw[← eB] at h ⊢
 obtain⟨k,m,t,l⟩:=e
 obtain⟨s,es⟩:∃ e,e=Cels.enc l:=⟨_,rfl⟩
 rw[show Cel.enc (.mk k m t l)=[.int .i64 k,.int .i64 m,.str t,.sl false 0 false 4 s] by rw[Cel.enc,es]] at h ⊢
 cases B
 all_goals
  refine go (fn:=Proofs.Tryz.f309) (n:=5) (rv:=[ResultVar.tmp 2]) rfl (by decide) rfl (by decide +kernel) rfl rfl (by simp) fun F L C=>?_
  cbv
  (repeat' first|(refine Na ?_ fun _ _=>?_;(focus lia);cbv)|(refine CallThen.mk _ _ (C.fn (h)) ?_;cbv)|(refine Nl fun _ _ hq=>?_;(try simp only [lenS] at hq);cbv)|(refine Nm fun _ _=>?_;cbv)|(refine Br.t ?_ ?_;(focus first|assumption|lia);cbv)|(refine Br.f ?_ ?_;(focus first|assumption|lia);cbv)|(refine Br.mk (fun _=>?_) (fun _=>?_)<;>cbv)|(refine Need.mk ?_ ?_;rotate_left;cbv)|(refine R0 ?_;cbv))
theorem pure_fn (O:Opq):∀ (n:Nat) (c:Cel),c.size≤n→(∀ e:Cel,e.size≤n→e.list.length≤1099511627776)→Fn prog 290 [.agg c.enc] [] [.bool (O.o pureC c)] []
  | 0,.mk k m t l,h,_=>by simp [Cel.size] at h
  | n+1,.mk k m t l,h,hb=>by
    have hl1:=Cels.enc_len l
    have hll:l.length≤1099511627776:=hb (.mk k m t l) h
    have hsz:∀ e∈l,e.size≤n:=fun e he=>by have:=Cels.size_mem he;rw[Cel.size] at h;omega
    have ih:=fun(e:Cel) (he:e∈l)=>pure1_fn O e (pure_fn O n e (hsz e he) fun g hg=>hb g (by omega))
    have hP:pureC (.mk k m t l)=if k=1 then decide (-9007199254740992≤m∧m≤9007199254740992∧t=ByteArray.empty∧l.length=0) else if k=2 then decide (m=0∧l.length=0) else if k=3 then decide (m=0∧t=ByteArray.empty∧pureCs l=true) else false:=by rw[pureC]
    obtain⟨r,er⟩:∃ r,r=Cels.enc l:=⟨_,rfl⟩
    have hcf:=contCel_fn O 309 notPure l r er hll ih
    rw[← er] at hl1
    have hfp:pureCs l=true ↔ ¬ 0≤O.o (findI notPure) l:=by
      rw[pureCs_find,O.h]
      constructor
      · intro h;rw[h];decide
      · intro h
        have:findI notPure l=-1∨0≤findI notPure l:=by rw[findI];split<;>omega
        omega
    obtain⟨B,eB⟩:∃ B,B=decide (0≤O.o (findI notPure) l):=⟨_,rfl⟩
    rw[← eB] at hcf
    have hB:pureCs l=true ↔ B=false:=by rw[hfp,eB,decide_eq_false_iff_not]
    obtain⟨Q,eQ⟩:∃ Q,Q=O.o pureC (.mk k m t l):=⟨_,rfl⟩
    rw[← eQ]
    have eQ2:Q=pureC (.mk k m t l):=by rw[eQ,O.h]
    rw[hP] at eQ2
    rw[show Cel.enc (.mk k m t l)=[.int .i64 k,.int .i64 m,.str t,.sl false 0 false 4 r] by rw[Cel.enc,er]]
    clear ih er eQ hP hfp eB hb hsz
    cases B
    all_goals
      simp only [hB,Bool.true_eq_false,and_false,and_true,decide_false] at eQ2
      refine go (fn:=Proofs.Tryz.f290) (n:=52) (rv:=[ResultVar.tmp 2]) rfl (by decide) rfl (by decide +kernel) rfl rfl (by simp) fun F L C=>?_
      cbv
      (repeat' first|(refine Na ?_ fun _ _=>?_;(focus lia);cbv)|(refine CallThen.mk _ _ (C.fn (hcf)) ?_;cbv)|(refine Nl fun _ _ hq=>?_;(try simp only [lenS] at hq);cbv)|(refine Nm fun _ _=>?_;cbv)|(refine Br.t ?_ ?_;(focus first|assumption|lia);cbv)|(refine Br.f ?_ ?_;(focus first|assumption|lia);cbv)|(refine Br.mk (fun _=>?_) (fun _=>?_)<;>cbv)|(refine Need.mk ?_ ?_;rotate_left;cbv)|(refine R0 ?_;cbv))
      all_goals refine⟨?_,trivial⟩
      all_goals first
        | (rw[eQ2];simp_all [emp];done)
        | (rw[eQ2];simp_all [emp];lia)
        | (rw[eQ2];grind)
        | (have h0 : l.length = 0 := by (clear hcf hB eQ2; lia)
           have ht:t=ByteArray.empty:=by assumption
           rw[eQ2,if_pos (by assumption)]
           exact decide_eq_true ⟨by assumption,by assumption,ht,h0⟩)
        | trace_state
theorem count_fnC (O:Opq):∀ (n:Nat) (c:Cel),c.size≤n→(∀ e:Cel,e.size≤n→e.list.length≤1099511627776)→∀ x:Int,0≤x→x≤100000→Fn prog 291 [.agg c.enc,.int .i64 x] [] [.int .i64 (O.o countC c x)] []
 | 0,.mk k m t l,h,_=>by simp [Cel.size] at h
 | n+1,.mk k m t l,h,hb=>by
  intro x hx0 hx1
  have hl1:=Cels.enc_len l
  have hll:l.length≤1099511627776:=hb (.mk k m t l) h
  have hsz:∀ e∈l,e.size≤n:=fun e he=>by have:=Cels.size_mem he;rw[Cel.size] at h;omega
  have ih:=fun(e:Cel) (he:e∈l)=>count_fnC O n e (hsz e he) fun g hg=>hb g (by omega)
  obtain⟨Q,eQ⟩:∃ Q,Q=O.o countC (.mk k m t l) x:=⟨_,rfl⟩
  rw[← eQ]
  have eQ2:Q=if 65536<t.size then -1 else countCs l (x-1):=by rw[eQ,O.h,countC]
  obtain⟨r,er⟩:∃ r,r=Cels.enc l:=⟨_,rfl⟩
  rw[← er] at hl1
  rw[show Cel.enc (.mk k m t l)=[.int .i64 k,.int .i64 m,.str t,.sl false 0 false 4 r] by rw[Cel.enc,er]]
  obtain⟨N,hN⟩:∃ N:Nat,N=l.length:=⟨_,rfl⟩
  obtain⟨z,hz⟩:∃ z:Nat,z=0:=⟨_,rfl⟩
  obtain⟨x0,ex0⟩:∃ y,y=x-1:=⟨_,rfl⟩
  by_cases ht:65536<t.size
  ·rw[if_pos ht] at eQ2
   clear ih er eQ
   refine go (fn:=Proofs.Tryz.f291) (n:=25) (rv:=[ResultVar.tmp 4]) rfl (by decide) rfl (by decide +kernel) rfl rfl (by simp) fun F L C=>?_
   cbv
   (repeat' first|(refine Na ?_ fun _ _=>?_;(focus lia);cbv)|(refine Nl fun _ _ hq=>?_;(try simp only [lenS] at hq);cbv)|(refine Nm fun _ _=>?_;cbv)|(refine Br.t ?_ ?_;(focus first|assumption|lia);cbv)|(refine Br.f ?_ ?_;(focus first|assumption|lia);cbv)|(refine Br.mk (fun _=>?_) (fun _=>?_)<;>cbv)|(refine Need.mk ?_ ?_;rotate_left;cbv)|(refine R0 ?_;cbv))
   all_goals first|(clear hb;lia)|trace_state
  ·rw[if_neg ht] at eQ2
   refine go (fn:=Proofs.Tryz.f291) (n:=25) (rv:=[ResultVar.tmp 4]) rfl (by decide) rfl (by decide +kernel) rfl rfl (by simp) fun F L C=>?_
   cbv
   (repeat' first|(refine Na ?_ fun _ _=>?_;(focus lia);cbv)|(refine Nl fun _ _ hq=>?_;(try simp only [lenS] at hq);cbv)|(refine Nm fun _ _=>?_;cbv)|(refine Br.t ?_ ?_;(focus first|assumption|lia);cbv)|(refine Br.f ?_ ?_;(focus first|assumption|lia);cbv)|(refine Br.mk (fun _=>?_) (fun _=>?_)<;>cbv)|(refine Need.mk ?_ ?_;rotate_left;cbv)|(refine R0 ?_;cbv))
   all_goals try(clear hb ih er eQ hsz;lia)
   refine LoopThen.mk (C.loopAt (ι:=Nat×Int) [(1,1),(4,4),(6,6),(16,25)] (fun y=>[(1,.int .i64 y.2),(4,.int .i64 0),(16,.int .i64 y.1)]) (fun _=>[(256,.box [.int .i64 k,.int .i64 m,.str t,.sl false 0 false 4 r])])
    (fun y=>y.1≤l.length∧-1≤y.2∧y.2≤100000∧countCs (l.drop y.1) y.2=Q) (fun y=>N-y.1) (by decide +kernel) (Start.mk (z,x0) [] [] ⟨by show z≤_;omega,by show -1≤x0;omega,by show x0≤_;omega,by rw[hz,eQ2,ex0];rfl⟩ ?_) ?_)
   ·cbv
    (repeat' apply And.intro)<;>first|exact True.intro|exact WkR.refl _|rfl|(clear hb ih er eQ hsz;lia)|trace_state
   intro y g
   cbv
   obtain⟨i,v⟩:=y
   have g1:i≤l.length:=g.1
   have g2:-1≤v:=g.2.1
   have g3:v≤100000:=g.2.2.1
   have g4:countCs (l.drop i) v=Q:=g.2.2.2
   clear g
   by_cases hi:i<l.length
   ·obtain⟨e,he⟩:∃ e,l[i]?=some e:=⟨l[i],by simp [hi]⟩
    have rx:r[i]?=some e.enc:=by rw[er,Cels.enc_map,List.getElem?_map,he];rfl
    have hdr:countCs (l.drop i) v=if v<0 then -1 else countCs (l.drop (i+1)) (countC e v):=by
     obtain⟨_,ee⟩:=List.getElem?_eq_some_iff.1 he
     rw[List.drop_eq_getElem_cons hi,countCs,ee]
    rw[hdr] at g4
    by_cases hv:v<0
    ·rw[if_pos hv] at g4
     clear ih hb er eQ hsz hdr eQ2
     obtain⟨kx,mx,tx,lx⟩:=e
     obtain⟨sx,esx⟩:∃ e,e=Cels.enc lx:=⟨_,rfl⟩
     rw[show Cel.enc (.mk kx mx tx lx)=[.int .i64 kx,.int .i64 mx,.str tx,.sl false 0 false 4 sx] by rw[Cel.enc,esx]] at rx
     (repeat' first|(refine Na ?_ fun _ _=>?_;(focus lia);cbv)|(refine Ex.at [.int .i64 kx,.int .i64 mx,.str tx,.sl false 0 false 4 sx] ⟨by clear rx he;lia,rx⟩ ?_;cbv)|(refine Nl fun _ _ hq=>?_;(try simp only [lenS] at hq);cbv)|(refine Nm fun _ _=>?_;cbv)|(refine Br.t ?_ ?_;(focus first|assumption|lia);cbv)|(refine Br.f ?_ ?_;(focus first|assumption|lia);cbv)|(refine Br.mk (fun _=>?_) (fun _=>?_)<;>cbv)|(refine Need.mk ?_ ?_;rotate_left;cbv)|(refine R0 ?_;cbv))
     all_goals first|(clear rx he;lia)|trace_state
    ·rw[if_neg hv] at g4
     have hc:=ih e (List.mem_of_getElem? he) v (by omega) g3
     have hle:=countC_le e v (by omega)
     have hcc:O.o countC e v=countC e v:=by rw[O.h]
     obtain⟨w,ew⟩:∃ w,w=O.o countC e v:=⟨_,rfl⟩
     rw[← ew] at hc hcc
     rw[← hcc] at hle g4
     clear ih hb er eQ hsz hdr eQ2 hcc ew
     obtain⟨kx,mx,tx,lx⟩:=e
     obtain⟨sx,esx⟩:∃ e,e=Cels.enc lx:=⟨_,rfl⟩
     rw[show Cel.enc (.mk kx mx tx lx)=[.int .i64 kx,.int .i64 mx,.str tx,.sl false 0 false 4 sx] by rw[Cel.enc,esx]] at rx hc
     (repeat' first|(refine Na ?_ fun _ _=>?_;(focus lia);cbv)|(refine Ex.at [.int .i64 kx,.int .i64 mx,.str tx,.sl false 0 false 4 sx] ⟨by clear rx he hc g4;lia,rx⟩ ?_;cbv)|(refine CallThen.mk _ _ (C.fn (hc)) ?_;cbv)|(refine Back.to (i+1,w) [] [] ?_ fun _ _=>?_;rotate_left;cbv)|(refine Nl fun _ _ hq=>?_;(try simp only [lenS] at hq);cbv)|(refine Nm fun _ _=>?_;cbv)|(refine Br.t ?_ ?_;(focus first|assumption|lia);cbv)|(refine Br.f ?_ ?_;(focus first|assumption|lia);cbv)|(refine Br.mk (fun _=>?_) (fun _=>?_)<;>cbv)|(refine Need.mk ?_ ?_;rotate_left;cbv)|(refine R0 ?_;cbv))
     all_goals try first
      | (clear rx he hc g4;lia)
      | exact⟨⟨by dsimp only;omega,by dsimp only;omega,by dsimp only;omega,g4⟩,by dsimp only;omega⟩
     all_goals first
      | (rename_i y ey;subst ey;(repeat' apply And.intro)<;>first|exact True.intro|exact WkR.refl _|rfl|(dsimp only;clear rx he hc g4;lia))
      | trace_state
   ·have hd:l.drop i=[]:=List.drop_of_length_le (by omega)
    rw[hd,countCs] at g4
    clear ih hb er eQ hsz
    (repeat' first|(refine Na ?_ fun _ _=>?_;(focus lia);cbv)|(refine Nl fun _ _ hq=>?_;(try simp only [lenS] at hq);cbv)|(refine Nm fun _ _=>?_;cbv)|(refine Br.t ?_ ?_;(focus first|assumption|lia);cbv)|(refine Br.f ?_ ?_;(focus first|assumption|lia);cbv)|(refine Br.mk (fun _=>?_) (fun _=>?_)<;>cbv)|(refine Need.mk ?_ ?_;rotate_left;cbv)|(refine R0 ?_;cbv))
    all_goals first|lia|trace_state
theorem ccheck_fn (O:Opq) (c:Cel) (h:c.size≤1099511627776):Fn prog 261 [.agg c.enc] [] [.int .i64 (O.o celErr c)] []:=by
 have hb:∀ e:Cel,e.size≤c.size→e.list.length≤1099511627776:=fun e he=>Nat.le_trans (Cel.len_size e) (by omega)
 have h1:=deep_fn O 12 c (by omega) hb
 have h2:=pure_fn O c.size c (Nat.le_refl _) hb
 have h3:=count_fnC O c.size c (Nat.le_refl _) hb 4096 (by omega) (by omega)
 have hE:O.o celErr c=if O.o (deepN 12) c=true then 13 else if O.o pureC c=false then 1 else if O.o countC c 4096<0 then 3 else 0:=by simp only [O.h];rfl
 obtain⟨a,ea⟩:∃ a,a=O.o (deepN 12) c:=⟨_,rfl⟩
 obtain⟨b,eb⟩:∃ a,a=O.o pureC c:=⟨_,rfl⟩
 obtain⟨w,ew⟩:∃ a,a=O.o countC c 4096:=⟨_,rfl⟩
 obtain⟨Q,eQ⟩:∃ a,a=O.o celErr c:=⟨_,rfl⟩
 rw[← ea] at h1 hE
 rw[← eb] at h2 hE
 rw[← ew] at h3 hE
 rw[← eQ] at hE ⊢
 clear hb h ea eb ew eQ
 obtain⟨k,m,t,l⟩:=c
 obtain⟨r,er⟩:∃ r,r=Cels.enc l:=⟨_,rfl⟩
 rw[show Cel.enc (.mk k m t l)=[.int .i64 k,.int .i64 m,.str t,.sl false 0 false 4 r] by rw[Cel.enc,er]] at h1 h2 h3 ⊢
 cases a<;>cases b
 all_goals
  simp only [if_true,if_false,Bool.false_eq_true,Bool.true_eq_false] at hE
  refine go (fn:=Proofs.Tryz.f261) (n:=13) (rv:=[ResultVar.tmp 2]) rfl (by decide) rfl (by decide +kernel) rfl rfl (by simp) fun F L C=>?_
  cbv
  (repeat' first|(refine Na ?_ fun _ _=>?_;(focus lia);cbv)|(refine CallThen.mk _ _ (C.fn (h1)) ?_;cbv)|(refine CallThen.mk _ _ (C.fn (h2)) ?_;cbv)|(refine CallThen.mk _ _ (C.fn (h3)) ?_;cbv)|(refine Nl fun _ _ hq=>?_;(try simp only [lenS] at hq);cbv)|(refine Nm fun _ _=>?_;cbv)|(refine Br.t ?_ ?_;(focus first|assumption|lia);cbv)|(refine Br.f ?_ ?_;(focus first|assumption|lia);cbv)|(refine Br.mk (fun _=>?_) (fun _=>?_)<;>cbv)|(refine Need.mk ?_ ?_;rotate_left;cbv)|(refine R0 ?_;cbv))
  all_goals first
   | (refine⟨?_,trivial⟩;rw[hE];done)
   | (refine⟨?_,trivial⟩;rw[hE,if_pos (by assumption)];done)
   | (refine⟨?_,trivial⟩;rw[hE,if_neg (by assumption)];done)
   | trace_state
theorem pcell_fn (O:Opq) (d:Doc) (hd:d.length≤1099511627):Fn prog 204 [.sl false 0 false 6 (O.o Doc.enc d)] [] [.agg ((O.o cellR d).en O),.int .i64 (O.o docErr d)] []:=by
 have hlen:(O.o Doc.enc d).length=d.length:=by rw[O.h,Doc.enc_len]
 have hmm:O.o docErr d=0 ↔ may d=true:=by rw[O.h];exact docErr_zero
 have h0:O.o Cels.enc []=[]:=by rw[O.h,Cels.enc]
 cases hm:may d with
 | false =>
  have hr:O.o cellR d=noC:=by rw[O.h,cellR,if_neg (by simp [hm])]
  have he:O.o docErr d≠0:=by rw[Ne,hmm,hm];decide
  rw[hr]
  clear hr hmm
  refine go (fn:=Proofs.Tryz.f204) (n:=33) (rv:=[ResultVar.cell 2 253,ResultVar.tmp 3]) rfl (by decide) rfl (by decide +kernel) rfl rfl (by simp) fun F L C=>?_
  cbv
  (repeat' first|(refine Na ?_ fun _ _=>?_;(focus lia);cbv)|(refine CallThen.mk _ _ (C.fn (check_fn O d (by lia))) ?_;cbv)|(refine Nl fun _ _ hq=>?_;(try simp only [lenS] at hq);cbv)|(refine Nm fun _ _=>?_;cbv)|(refine Br.t ?_ ?_;(focus first|assumption|lia);cbv)|(refine Br.f ?_ ?_;(focus first|assumption|lia);cbv)|(refine Br.mk (fun _=>?_) (fun _=>?_)<;>cbv)|(refine Need.mk ?_ ?_;rotate_left;cbv)|(refine R0 ?_;cbv))
  all_goals first
   | (exfalso;lia)
   | exact⟨h0,trivial⟩
   | trace_state
 | true =>
  have hr:O.o cellR d=O.o docC d:=by simp only [O.h];rw[cellR,if_pos hm]
  have hp:(O.o docC d).kind=3∧(O.o docC d).num=0∧(O.o docC d).text=ByteArray.empty:=by rw[O.h];exact⟨rfl,rfl,rfl⟩
  have he:O.o docErr d=0:=hmm.2 hm
  rw[hr,he]
  have hdl:=may_len hm
  have hck:=check_fn O d (by lia)
  rw[he] at hck
  clear hr hmm he
  obtain⟨N,hN⟩:∃ N:Nat,N=d.length:=⟨_,rfl⟩
  obtain⟨z,hz⟩:∃ z:Nat,z=0:=⟨_,rfl⟩
  have hz0:O.o (fieldsC d) z=[]:=by rw[O.h,hz];rfl
  have hen:∀ k:Nat,N≤k→O.o (fieldsC d) k=O.o Cels.enc (O.o docC d).list:=fun k h=>by simp only [O.h];exact fieldsC_all (by omega)
  have hfl:∀ k:Nat,k≤N→(O.o (fieldsC d) k).length≤1099511627:=fun k h=>by rw[O.h,fieldsC_len (by omega)];omega
  refine go (fn:=Proofs.Tryz.f204) (n:=33) (rv:=[ResultVar.cell 2 253,ResultVar.tmp 3]) rfl (by decide) rfl (by decide +kernel) rfl rfl (by simp) fun F L C=>?_
  cbv
  (repeat' first|(refine Na ?_ fun _ _=>?_;(focus lia);cbv)|(refine CallThen.mk _ _ (C.fn (hck)) ?_;cbv)|(refine Nl fun _ _ hq=>?_;(try simp only [lenS] at hq);cbv)|(refine Nm fun _ _=>?_;cbv)|(refine Br.t ?_ ?_;(focus first|assumption|lia);cbv)|(refine Br.f ?_ ?_;(focus first|assumption|lia);cbv)|(refine Br.mk (fun _=>?_) (fun _=>?_)<;>cbv)|(refine Need.mk ?_ ?_;rotate_left;cbv)|(refine R0 ?_;cbv))
  refine LoopThen.mk (C.loopAt (ι:=Nat) [(5,5),(7,7),(16,31)] (fun k=>[(5,.ref 50),(16,.int .i64 k)]) (fun k=>[(50,.arr 0 none 4 (O.o (fieldsC d) k)),(256,.box [.int .i64 0,.int .i64 0,.str ByteArray.empty,.nils])])
   (fun k=>k≤N) (fun k=>N-k) (by decide +kernel) (Start.mk z [(50,.nil 4)] [] (by lia) ?_) ?_)
  ·cbv
   (repeat' apply And.intro)<;>first|exact True.intro|exact WkR.refl _|rfl|exact hz0|lia
  intro k g
  cbv
  by_cases hk:k<d.length
  ·obtain⟨x,hx⟩:∃ x,d[k]?=some x:=⟨d[k],by simp [hk]⟩
   have hst:=fieldsC_more O hx
   have hll:=hfl k g
   clear hen hck hz0 hfl
   (repeat' first|(refine Na ?_ fun _ _=>?_;(focus lia);cbv)|(refine Ex.known O Field.enc rfl hx ?_ ?_;(focus lia);cbv)|(refine CallThen.mk _ _ (C.fn (ctext_fn O _)) ?_;cbv)|(refine CallThen.mk _ _ (C.fn (value_fn O ⟨_,_,_,_,_⟩)) ?_;cbv)|(refine CallThen.mk _ _ (C.fn (clist_fn _ _ _ (by simp))) ?_;cbv)|(refine Back.up [(50,.loc 2048)] [] ?_ ?_ fun _ _=>?_;rotate_left 2;cbv;refine And.intro ?_ ?_)|(refine Nl fun _ _ hq=>?_;(try simp only [lenS] at hq);cbv)|(refine Nm fun _ _=>?_;cbv)|(refine Br.t ?_ ?_;(focus first|assumption|lia);cbv)|(refine Br.f ?_ ?_;(focus first|assumption|lia);cbv)|(refine Br.mk (fun _=>?_) (fun _=>?_)<;>cbv)|(refine Need.mk ?_ ?_;rotate_left;cbv)|(refine R0 ?_;cbv))
   all_goals(repeat' apply And.intro)
   all_goals try first
    | exact True.intro
    | exact WkR.refl _
    | (clear hst hx;lia)
   all_goals first
    | (refine WkR.of_eq ?_;subst_vars;exact hst)
    | (simp only [List.length_cons,List.length_nil];clear hst hx;lia)
    | trace_state
  ·have hll:=hfl k g
   have hke:=hen k (by omega)
   clear hen hck hz0 hfl
   (repeat' first|(refine Na ?_ fun _ _=>?_;(focus lia);cbv)|(refine CallThen.mk _ _ (C.fn (clist0_fn _ hll)) ?_;cbv)|(refine Nl fun _ _ hq=>?_;(try simp only [lenS] at hq);cbv)|(refine Nm fun _ _=>?_;cbv)|(refine Br.t ?_ ?_;(focus first|assumption|lia);cbv)|(refine Br.f ?_ ?_;(focus first|assumption|lia);cbv)|(refine Br.mk (fun _=>?_) (fun _=>?_)<;>cbv)|(refine Need.mk ?_ ?_;rotate_left;cbv)|(refine R0 ?_;cbv))
   all_goals first
    | lia
    | exact⟨hp.1.symm,hp.2.1.symm,hp.2.2.symm,.of_eq hke.symm,trivial⟩
    | exact⟨hp.1,hp.2.1,hp.2.2,.of_eq hke.symm,trivial⟩
    | trace_state
theorem bts_snoc (O:Opq) (l:List UInt8) {n:Nat} (h:n<256) {v:Int} (hv:v=n):O.o bts (l++[UInt8.ofNat n])=O.o bts l++[[.int .u8 v]]:=by
 simp only [O.h,bts_append]
 rw[hv]
 simp only [bts,List.map_cons,List.map_nil,UInt8.toNat_ofNat']
 rw[show n % 2 ^ 8=n by omega]
theorem cnumber_fn (O:Opq) (nn:Nat) (b:List UInt8) (n:Nat) (hn:n<4611686018427387904) (hb:b.length≤1099511627):Fn prog 292 [.ref 0,.int .i64 n] [.arr nn none 1 (O.o bts b)] [.ref 1] [.dead,.arr 2 none 1 (O.o bts (b++O.o numB n))]:=by
 have hnb:O.o numB n=numB n:=by rw[O.h]
 have hnl:(numB n).length≤9:=numB_len (k:=8) (by omega)
 rw[hnb]
 obtain⟨N,hN⟩:∃ N,N=b++numB n:=⟨_,rfl⟩
 have hNl:N.length≤b.length+9:=by rw[hN,List.length_append];omega
 rw[← hN]
 obtain⟨B,hB⟩:∃ B,B=O.o bts b:=⟨_,rfl⟩
 rw[← hB]
 obtain⟨M,hM⟩:∃ M,M=O.o bts N:=⟨_,rfl⟩
 rw[← hM]
 clear hnb
 refine go (fn:=Proofs.Tryz.f292) (n:=18) (rv:=[ResultVar.tmp 4]) rfl (by decide) rfl (by decide +kernel) rfl rfl (by simp) fun F L C=>?_
 cbv
 (repeat' first|(refine Na ?_ fun _ _=>?_;(focus lia);cbv)|(refine Nl fun _ _ hq=>?_;(try simp only [lenS] at hq);cbv)|(refine Nm fun _ _=>?_;cbv)|(refine Br.t ?_ ?_;(focus first|assumption|lia);cbv)|(refine Br.f ?_ ?_;(focus first|assumption|lia);cbv)|(refine Br.mk (fun _=>?_) (fun _=>?_)<;>cbv)|(refine Need.mk ?_ ?_;rotate_left;cbv)|(refine R0 ?_;cbv))
 refine LoopThen.mk (C.loopAt (ι:=List UInt8×Nat) [(0,1),(5,14)] (fun x=>[(0,.ref 50),(1,.int .i64 x.2)]) (fun x=>[(50,.arr 0 none 1 (O.o bts x.1)),(0,.dead)])
  (fun x=>x.1++numB x.2=N∧x.2≤n) (fun x=>x.2) (by decide +kernel) (Start.mk (b,n) [(50,.loc 0)] [] ⟨hN.symm,Nat.le_refl n⟩ ?_) ?_)
 ·cbv
  (repeat' apply And.intro)<;>first|exact True.intro|exact WkR.refl _|rfl|exact WkR.of_eq hB.symm|lia
 intro x g
 cbv
 obtain⟨l,m⟩:=x
 have g1:l++numB m=N:=g.1
 have g2:m≤n:=g.2
 clear g
 have hlN:l.length≤N.length:=by rw[← g1,List.length_append];omega
 have hll:(O.o bts l).length=l.length:=by rw[O.h,bts_len]
 by_cases hm:m<128
 ·rw[numB_lo hm] at g1
  have hst:=fun {v:Int} (hv:v=m)=>bts_snoc O l (n:=m) (by omega) hv
  rw[g1,← hM] at hst
  clear hM hB hN g1
  (repeat' first|(refine Na ?_ fun _ _=>?_;(focus lia);cbv)|(refine Named.w8s ?_ fun _ _=>?_;(focus lia);cbv)|(refine RetThen.mk [(1,.loc 1344)] [] ?_;cbv)|(refine Nl fun _ _ hq=>?_;(try simp only [lenS] at hq);cbv)|(refine Nm fun _ _=>?_;cbv)|(refine Br.t ?_ ?_;(focus first|assumption|lia);cbv)|(refine Br.f ?_ ?_;(focus first|assumption|lia);cbv)|(refine Br.mk (fun _=>?_) (fun _=>?_)<;>cbv)|(refine Need.mk ?_ ?_;rotate_left;cbv)|(refine R0 ?_;cbv))
  all_goals first
   | lia
   | (simp only [List.length_cons,List.length_nil];clear hst;lia)
   | (rename_i e1 e2 R eR;refine⟨.of_eq ?_,trivial⟩;rw[eR];exact hst (by lia))
   | trace_state
 ·rw[numB_hi hm] at g1
  have hst:=fun {v:Int} (hv:v=((m % 128+128:Nat):Int))=>bts_snoc O l (n:=m % 128+128) (by omega) hv
  have g3:(l++[UInt8.ofNat (m % 128+128)])++numB (m / 128)=N:=by rw[← g1];simp
  clear hM hB hN g1
  (repeat' first|(refine Na ?_ fun _ _=>?_;(focus lia);cbv)|(refine Named.or128 ?_ fun _ _=>?_;(focus lia);cbv)|(refine Named.w8 ?_ fun _ _ _ _=>?_;(focus lia);cbv)|(refine Named.shr7 fun _ _=>?_;cbv)|(refine Back.to (l++[UInt8.ofNat (m % 128+128)],m / 128) [(50,.loc 896)] [] ?_ fun _ _=>?_;rotate_left;cbv)|(refine Nl fun _ _ hq=>?_;(try simp only [lenS] at hq);cbv)|(refine Nm fun _ _=>?_;cbv)|(refine Br.t ?_ ?_;(focus first|assumption|lia);cbv)|(refine Br.f ?_ ?_;(focus first|assumption|lia);cbv)|(refine Br.mk (fun _=>?_) (fun _=>?_)<;>cbv)|(refine Need.mk ?_ ?_;rotate_left;cbv)|(refine R0 ?_;cbv))
  all_goals try first
   | lia
   | (simp only [List.length_cons,List.length_nil];clear hst;lia)
   | exact⟨⟨g3,by show m / 128≤n;omega⟩,by show m / 128<m;omega⟩
  rename_i R eR n1 e1 y ey
  subst ey
  refine⟨.of_eq ?_,by clear hst;dsimp only;lia,trivial⟩
  rw[eR];exact hst (by clear hst;lia)
end Go.Sym
