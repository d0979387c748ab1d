/- The law ShelfWaits (walk). -/
import Derived.Test.YtfdbdalnpdgfmaaGreatDoorK29
import Derived.Test.YtfdbdalnpdgfmaaGreatDoorK31
import Derived.Test.YtfdbdalnpdgfmaaGreatDoorK30
set_option linter.all false
set_option linter.unusedVariables false
set_option linter.unusedSimpArgs false
namespace Go.Sym
open Go Go.Proofs.Tryz
set_option maxRecDepth 100000
theorem shelfWaits_fn (O:Opq) (s:Shlf) (o:Opn):Fn prog 4 [.agg (s.enc O),.agg (Opn.en O o)] [] [.bool true] []:=by
 have ka:=awake15_fn O
 have hlen:=Prs.len O s.ents
 by_cases hb:1100<s.dfn.size∨200<s.ents.length
 ·obtain⟨d,rd,mk,l⟩:=s
  obtain⟨ok,okey,oto,odoc,ow,oh,on,om,olist,odocs,onews⟩:=o
  have hlen:(O.o Prs.enc l).length=l.length:=hlen
  have hb:1100<d.size∨200<l.length:=hb
  refine go (fn:=Proofs.Tryz.f4) (n:=92) (rv:=[ResultVar.tmp 4]) rfl (by decide) rfl (by decide +kernel) rfl rfl (by simp) fun F L C=>?_
  cbv
  (repeat' first|(refine Na ?_ fun _ _=>?_;(focus lia);cbv)|(refine CallThen.mk _ _ (C.fn (ka)) ?_;cbv)|(fail)|(refine Nl fun _ _ hq=>?_;(try simp only [lenS] at hq);cbv)|(refine Nm fun _ _=>?_;cbv)|(refine Br.t ?_ ?_;(focus first|assumption|lia);cbv)|(refine Br.f ?_ ?_;(focus first|assumption|lia);cbv)|(refine Br.mk (fun _=>?_) (fun _=>?_)<;>cbv)|(refine Need.mk ?_ ?_;rotate_left;cbv)|(refine R0 ?_;cbv))
  all_goals first
   | exact⟨rfl,trivial⟩
   | (exfalso;clear ka;lia)
   | (exfalso;contradiction)
   | trace_state
 have hb:=not_or.1 hb
 have hb1:¬ 1100<s.dfn.size:=hb.1
 have hb2:¬ 200<s.ents.length:=hb.2
 by_cases hm:mayS s
 ·have km:=rschk_fn O s (by omega) (by omega) (R:=true) (fun _=>rfl) (fun h=>absurd hm h)
  by_cases hk:o.kind=104
  ·have kp:=sapply_find O s o (by omega) (by omega) hm hk
   have ks:=ssame_fn O s s (by omega) (Q:=true) (by simp)
   have e1:O.o Doc.enc []=[]:=by rw[O.h];rfl
   have e2:O.o (Nms.enc O) []=[]:=by rw[O.h];rfl
   have e3:O.o (Chs.enc O) []=[]:=by rw[O.h];rfl
   have e4:O.o Prs.enc []=[]:=by rw[O.h];rfl
   have a1:∀ e,Answer.enc O (ansE e)=[.int .i64 e,.bool false,.sl false 0 false 6 [],.sl false 0 false 2 [],.sl false 0 false 4 [],.int .i64 0,.int .i64 0,.sl false 0 false 2 []]:=fun e=>by
    show[PV.int .i64 e,.bool false,.sl false 0 false 6 (O.o Doc.enc []),.sl false 0 false 2 (O.o (Nms.enc O) []),.sl false 0 false 4 (O.o (Chs.enc O) []),.int .i64 0,.int .i64 0,.sl false 0 false 2 (O.o Prs.enc [])]=_
    rw[e1,e2,e3,e4]
   have kz:∀ e,Fn prog 11 [.agg (Answer.enc O (ansE e)),.agg (Answer.enc O (ansE e))] [] [.bool true] []:=fun e=>by
    have h:=ransw_fn O (ansE e) (ansE e) (by simp [ansE]) (by simp [ansE]) (by simp [ansE]) (by simp [ansE])
    rwa [O.h sameAns,show sameAns (ansE e) (ansE e)=true by simp [sameAns]] at h
   have kz1:=kz 1
   have kz9:=kz 9
   have hF:foundA s o=if o.most<1∨24<o.most then ansE 1 else if s.ready=false∨s.mark<o.n then ansE 9 else⟨0,false,[],[],[],s.mark,0,findP o.key o.to o.most s.ents⟩:=rfl
   obtain⟨d,rd,mk,l⟩:=s
   obtain⟨ok,okey,oto,odoc,ow,oh,on,om,olist,odocs,onews⟩:=o
   have hlen:(O.o Prs.enc l).length=l.length:=hlen
   have hb1:¬ 1100<d.size:=hb1
   have hb2:¬ 200<l.length:=hb2
   have hk:ok=104:=hk
   clear hm
   by_cases h1:om<1∨24<om
   ·rw[show foundA ⟨d,rd,mk,l⟩ (.mk ok okey oto odoc ow oh on om olist odocs onews)=ansE 1 from hF.trans (if_pos h1)] at kp
    rw[a1] at kp kz1
    clear hF kz kz9 a1
    refine go (fn:=Proofs.Tryz.f4) (n:=92) (rv:=[ResultVar.tmp 4]) rfl (by decide) rfl (by decide +kernel) rfl rfl (by simp) fun F L C=>?_
    cbv
    (repeat' first|(refine Na ?_ fun _ _=>?_;(focus lia);cbv)|(refine CallThen.mk _ _ (C.fn (ka)) ?_;cbv)|(refine CallThen.mk _ _ (C.fn (km)) ?_;cbv)|(refine CallThen.mk _ _ (C.fn (kp)) ?_;cbv)|(refine CallThen.mk _ _ (C.fn (ks)) ?_;cbv)|(refine CallThen.mk _ _ (C.fn (Fn.wkA (kz1) ?_)) ?_;(focus((repeat' apply WkAL.cons)<;>first|exact WkAL.nil|exact WkA.refl _|exact WkA.lend rfl|exact WkA.bor rfl (WkR.refl _)|exact WkA.wk (Wk.nil _ _)|exact WkA.wk (Wk.sl' rfl rfl (WkR.refl _))|(refine WkA.agg' ?_;((repeat' apply WkAL.cons)<;>first|exact WkAL.nil|exact WkA.refl _|exact WkA.lend rfl|exact WkA.bor rfl (WkR.refl _)|exact WkA.wk (Wk.nil _ _)|exact WkA.wk (Wk.sl' rfl rfl (WkR.refl _))|(refine WkA.agg' ?_;((repeat' apply WkAL.cons)<;>first|exact WkAL.nil|exact WkA.refl _|exact WkA.lend rfl|exact WkA.bor rfl (WkR.refl _)|exact WkA.wk (Wk.nil _ _)|exact WkA.wk (Wk.sl' rfl rfl (WkR.refl _))))))));cbv)|(refine Nl fun _ _ hq=>?_;(try simp only [lenS] at hq);cbv)|(refine Nm fun _ _=>?_;cbv)|(refine Br.t ?_ ?_;(focus first|assumption|lia);cbv)|(refine Br.f ?_ ?_;(focus first|assumption|lia);cbv)|(refine Br.mk (fun _=>?_) (fun _=>?_)<;>cbv)|(refine Need.mk ?_ ?_;rotate_left;cbv)|(refine R0 ?_;cbv))
    all_goals first
     | exact⟨rfl,trivial⟩
     | (exfalso;clear ka km kp ks kz1;lia)
     | (exfalso;contradiction)
     | trace_state
   ·by_cases h2:rd=false∨mk<on
    ·rw[show foundA ⟨d,rd,mk,l⟩ (.mk ok okey oto odoc ow oh on om olist odocs onews)=ansE 9 from hF.trans ((if_neg h1).trans (if_pos h2))] at kp
     rw[a1] at kp kz9
     clear hF kz kz1 a1
     cases rd
     ·clear h2
      refine go (fn:=Proofs.Tryz.f4) (n:=92) (rv:=[ResultVar.tmp 4]) rfl (by decide) rfl (by decide +kernel) rfl rfl (by simp) fun F L C=>?_
      cbv
      (repeat' first|(refine Na ?_ fun _ _=>?_;(focus lia);cbv)|(refine CallThen.mk _ _ (C.fn (ka)) ?_;cbv)|(refine CallThen.mk _ _ (C.fn (km)) ?_;cbv)|(refine CallThen.mk _ _ (C.fn (kp)) ?_;cbv)|(refine CallThen.mk _ _ (C.fn (ks)) ?_;cbv)|(refine CallThen.mk _ _ (C.fn (Fn.wkA (kz9) ?_)) ?_;(focus((repeat' apply WkAL.cons)<;>first|exact WkAL.nil|exact WkA.refl _|exact WkA.lend rfl|exact WkA.bor rfl (WkR.refl _)|exact WkA.wk (Wk.nil _ _)|exact WkA.wk (Wk.sl' rfl rfl (WkR.refl _))|(refine WkA.agg' ?_;((repeat' apply WkAL.cons)<;>first|exact WkAL.nil|exact WkA.refl _|exact WkA.lend rfl|exact WkA.bor rfl (WkR.refl _)|exact WkA.wk (Wk.nil _ _)|exact WkA.wk (Wk.sl' rfl rfl (WkR.refl _))|(refine WkA.agg' ?_;((repeat' apply WkAL.cons)<;>first|exact WkAL.nil|exact WkA.refl _|exact WkA.lend rfl|exact WkA.bor rfl (WkR.refl _)|exact WkA.wk (Wk.nil _ _)|exact WkA.wk (Wk.sl' rfl rfl (WkR.refl _))))))));cbv)|(refine Nl fun _ _ hq=>?_;(try simp only [lenS] at hq);cbv)|(refine Nm fun _ _=>?_;cbv)|(refine Br.t ?_ ?_;(focus first|assumption|lia);cbv)|(refine Br.f ?_ ?_;(focus first|assumption|lia);cbv)|(refine Br.mk (fun _=>?_) (fun _=>?_)<;>cbv)|(refine Need.mk ?_ ?_;rotate_left;cbv)|(refine R0 ?_;cbv))
      all_goals first
       | exact⟨rfl,trivial⟩
       | (exfalso;clear ka km kp ks kz9;lia)
       | (exfalso;contradiction)
       | trace_state
     ·have h2:mk<on:=by simpa using h2
      refine go (fn:=Proofs.Tryz.f4) (n:=92) (rv:=[ResultVar.tmp 4]) rfl (by decide) rfl (by decide +kernel) rfl rfl (by simp) fun F L C=>?_
      cbv
      (repeat' first|(refine Na ?_ fun _ _=>?_;(focus lia);cbv)|(refine CallThen.mk _ _ (C.fn (ka)) ?_;cbv)|(refine CallThen.mk _ _ (C.fn (km)) ?_;cbv)|(refine CallThen.mk _ _ (C.fn (kp)) ?_;cbv)|(refine CallThen.mk _ _ (C.fn (ks)) ?_;cbv)|(refine CallThen.mk _ _ (C.fn (Fn.wkA (kz9) ?_)) ?_;(focus((repeat' apply WkAL.cons)<;>first|exact WkAL.nil|exact WkA.refl _|exact WkA.lend rfl|exact WkA.bor rfl (WkR.refl _)|exact WkA.wk (Wk.nil _ _)|exact WkA.wk (Wk.sl' rfl rfl (WkR.refl _))|(refine WkA.agg' ?_;((repeat' apply WkAL.cons)<;>first|exact WkAL.nil|exact WkA.refl _|exact WkA.lend rfl|exact WkA.bor rfl (WkR.refl _)|exact WkA.wk (Wk.nil _ _)|exact WkA.wk (Wk.sl' rfl rfl (WkR.refl _))|(refine WkA.agg' ?_;((repeat' apply WkAL.cons)<;>first|exact WkAL.nil|exact WkA.refl _|exact WkA.lend rfl|exact WkA.bor rfl (WkR.refl _)|exact WkA.wk (Wk.nil _ _)|exact WkA.wk (Wk.sl' rfl rfl (WkR.refl _))))))));cbv)|(refine Nl fun _ _ hq=>?_;(try simp only [lenS] at hq);cbv)|(refine Nm fun _ _=>?_;cbv)|(refine Br.t ?_ ?_;(focus first|assumption|lia);cbv)|(refine Br.f ?_ ?_;(focus first|assumption|lia);cbv)|(refine Br.mk (fun _=>?_) (fun _=>?_)<;>cbv)|(refine Need.mk ?_ ?_;rotate_left;cbv)|(refine R0 ?_;cbv))
      all_goals first
       | exact⟨rfl,trivial⟩
       | (exfalso;clear ka km kp ks kz9;lia)
       | (exfalso;contradiction)
       | trace_state
    ·rw[show foundA ⟨d,rd,mk,l⟩ (.mk ok okey oto odoc ow oh on om olist odocs onews)=⟨0,false,[],[],[],mk,0,findP okey oto om l⟩ from hF.trans ((if_neg h1).trans (if_neg h2))] at kp
     have h2:=not_or.1 h2
     have h3:rd=true:=by simpa using h2.1
     have h4:=h2.2
     subst h3
     obtain⟨W,hW⟩:∃ W,W=findP okey oto om l:=⟨_,rfl⟩
     rw[← hW] at kp
     clear hF kz kz1 kz9 a1 h2 hW
     refine go (fn:=Proofs.Tryz.f4) (n:=92) (rv:=[ResultVar.tmp 4]) rfl (by decide) rfl (by decide +kernel) rfl rfl (by simp) fun F L C=>?_
     cbv
     (repeat' first|(refine Na ?_ fun _ _=>?_;(focus lia);cbv)|(refine CallThen.mk _ _ (C.fn (ka)) ?_;cbv)|(refine CallThen.mk _ _ (C.fn (km)) ?_;cbv)|(refine CallThen.mk _ _ (C.fn (kp)) ?_;cbv)|(refine CallThen.mk _ _ (C.fn (ks)) ?_;cbv)|(refine Nl fun _ _ hq=>?_;(try simp only [lenS] at hq);cbv)|(refine Nm fun _ _=>?_;cbv)|(refine Br.t ?_ ?_;(focus first|assumption|lia);cbv)|(refine Br.f ?_ ?_;(focus first|assumption|lia);cbv)|(refine Br.mk (fun _=>?_) (fun _=>?_)<;>cbv)|(refine Need.mk ?_ ?_;rotate_left;cbv)|(refine R0 ?_;cbv))
     all_goals first
      | exact⟨rfl,trivial⟩
      | (exfalso;clear ka km kp ks;lia)
      | (exfalso;contradiction)
      | trace_state
  ·obtain⟨d,rd,mk,l⟩:=s
   obtain⟨ok,okey,oto,odoc,ow,oh,on,om,olist,odocs,onews⟩:=o
   have hlen:(O.o Prs.enc l).length=l.length:=hlen
   have hb1:¬ 1100<d.size:=hb1
   have hb2:¬ 200<l.length:=hb2
   have hk:¬ ok=104:=hk
   refine go (fn:=Proofs.Tryz.f4) (n:=92) (rv:=[ResultVar.tmp 4]) rfl (by decide) rfl (by decide +kernel) rfl rfl (by simp) fun F L C=>?_
   cbv
   (repeat' first|(refine Na ?_ fun _ _=>?_;(focus lia);cbv)|(refine CallThen.mk _ _ (C.fn (ka)) ?_;cbv)|(refine CallThen.mk _ _ (C.fn (km)) ?_;cbv)|(refine Nl fun _ _ hq=>?_;(try simp only [lenS] at hq);cbv)|(refine Nm fun _ _=>?_;cbv)|(refine Br.t ?_ ?_;(focus first|assumption|lia);cbv)|(refine Br.f ?_ ?_;(focus first|assumption|lia);cbv)|(refine Br.mk (fun _=>?_) (fun _=>?_)<;>cbv)|(refine Need.mk ?_ ?_;rotate_left;cbv)|(refine R0 ?_;cbv))
   all_goals first
    | exact⟨rfl,trivial⟩
    | (exfalso;clear ka km;lia)
    | (exfalso;contradiction)
    | trace_state
 ·have km:=rschk_fn O s (by omega) (by omega) (R:=false) (fun h=>absurd h hm) (fun _=>rfl)
  obtain⟨d,rd,mk,l⟩:=s
  obtain⟨ok,okey,oto,odoc,ow,oh,on,om,olist,odocs,onews⟩:=o
  have hlen:(O.o Prs.enc l).length=l.length:=hlen
  have hb1:¬ 1100<d.size:=hb1
  have hb2:¬ 200<l.length:=hb2
  clear hm
  refine go (fn:=Proofs.Tryz.f4) (n:=92) (rv:=[ResultVar.tmp 4]) rfl (by decide) rfl (by decide +kernel) rfl rfl (by simp) fun F L C=>?_
  cbv
  (repeat' first|(refine Na ?_ fun _ _=>?_;(focus lia);cbv)|(refine CallThen.mk _ _ (C.fn (ka)) ?_;cbv)|(refine CallThen.mk _ _ (C.fn (km)) ?_;cbv)|(refine Nl fun _ _ hq=>?_;(try simp only [lenS] at hq);cbv)|(refine Nm fun _ _=>?_;cbv)|(refine Br.t ?_ ?_;(focus first|assumption|lia);cbv)|(refine Br.f ?_ ?_;(focus first|assumption|lia);cbv)|(refine Br.mk (fun _=>?_) (fun _=>?_)<;>cbv)|(refine Need.mk ?_ ?_;rotate_left;cbv)|(refine R0 ?_;cbv))
  all_goals first
   | exact⟨rfl,trivial⟩
   | (exfalso;clear ka km;lia)
   | (exfalso;contradiction)
   | trace_state
open Go Go.Proofs Go.Proofs.Tryz
theorem shelfWaits_law {n0:Nat} {x0:List PV} {n1:Nat} {x1:List PV} (s0:shape prog n0 25 x0) (s1:shape prog n1 40 x1):Fn prog 4 [.agg x0,.agg x1] [] [.bool true] []:=by
 obtain⟨c,wc,_⟩:=shape_shlf s0
 obtain⟨k,wk,_⟩:=shape_opn s1
 rw[Opn.en_eq Opq.id] at wk
 have h:=shelfWaits_fn Opq.id c k
 exact Fn.wkA h (.cons (.agg' ⟨wc.len,fun j x y p q=>.wk (wc.at' j x y p q)⟩) (.cons (.agg' ⟨wk.len,fun j x y p q=>.wk (wk.at' j x y p q)⟩) .nil))
end Go.Sym
