/- A subscription is opened, acknowledged, closed, by the document. -/
import Derived.Test.YtfkigahipkndgaaGreatDoorK17
set_option linter.all false
set_option linter.unusedVariables false
set_option linter.unusedSimpArgs false
namespace Go.Sym
open Go Go.Proofs.Tryz
set_option maxRecDepth 100000
def takeS (l:List Sub) (k:Nat):List (List PV):=Subs.enc (l.take k)
theorem takeS_len (l:List Sub) (k:Nat):(takeS l k).length≤k:=by rw[takeS,Subs.enc_len,List.length_take];omega
theorem takeS_succ {l:List Sub} {k:Nat} {x:Sub} (h:l[k]?=some x):takeS l (k+1)=takeS l k++[x.enc]:=by
 simp only [takeS,List.take_add_one,h,Subs.enc,List.map_append,Option.toList_some,List.map_cons,List.map_nil]
theorem retS {O:Opq} {g f h:Feed} {R:List (List PV)} {Q:List (List PV)→Prop} (hg:g=h) (hb:h.base=f.base) (ht:h.total=f.total) (hc:h.changes=f.changes) (hR:R=O.o Subs.enc h.subs) (hq:∀ rs,Q rs):g.base=f.base∧g.total=f.total∧WkR (O.o (Chs.enc O) g.changes) (O.o (Chs.enc O) f.changes)∧Named (List (List PV)) (fun _=>R) fun rs=>WkR (O.o Subs.enc g.subs) rs∧Q rs:=by
 subst hg
 exact⟨hb,ht,.of_eq (by rw[hc]),Named.mk fun rs e=>⟨.of_eq (by rw[e,hR]),hq rs⟩⟩
set_option maxHeartbeats 4000000 in
theorem ropen_fn (O:Opq) (f:Feed) (n:ByteArray) (a:Int) (hm:mayF f=true):Fn prog 156 [.agg (f.enc O),.str n,.int .i64 a] [] [.agg (Feed.enc O (O.o openR f n a)),.int .i64 (O.o openE f n a)] []:=by
 have hl2:=Subs.len O f.subs
 have hso:=mayF_subs hm
 have hs8:f.subs.length≤8:=(mayF_iff.1 hm).1.2.2.2.2
 have hk1:O.o isKey n=isKey n:=by rw[O.h]
 obtain⟨N,hN⟩:∃ N:Nat,N=f.subs.length:=⟨_,rfl⟩
 obtain⟨z,hz⟩:∃ z:Nat,z=0:=⟨_,rfl⟩
 have hrt:∀ {e:Int},openE f n a=e∧openR f n a=f→O.o openR f n a=f∧O.o openE f n a=e:=fun h=>by simp only [O.h];exact h.symm
 have hf:O.o (findI (hasK Sub.name n)) f.subs=if getK Sub.name f.subs n=true then(posK Sub.name f.subs n:Int) else -1:=by rw[O.h];exact findI_hasK hso
 by_cases hk:isKey n=true∧0≤a∧a≤f.total
 ·cases hg:getK Sub.name f.subs n with
  | true =>
   rw[hg,if_pos rfl] at hf
   obtain⟨x2,x1⟩:=hrt (openE_same hm hk hg)
   rw[hk.1] at hk1
   clear hrt
   refine go (fn:=Proofs.Tryz.f156) (n:=79) (rv:=[ResultVar.cell 6 62,ResultVar.tmp 7]) rfl (by decide) rfl (by decide +kernel) rfl rfl (by simp) fun F L C=>?_
   cbv
   (repeat' first|(refine Na ?_ fun _ _=>?_;(focus lia);cbv)|(refine CallThen.boolT (C.fn (rkey_fn O n)) ?_ ?_;(focus assumption);cbv)|(refine CallThen.boolF (C.fn (rkey_fn O n)) ?_ ?_;(focus assumption);cbv)|(refine CallThen.bool (C.fn (rkey_fn O n)) (fun _=>?_) (fun _=>?_)<;>cbv)|(refine CallThen.mk _ _ (C.fn (ratS_fn O f n (by lia))) ?_;cbv)|(refine Nl fun _ _ hq=>?_;(try simp only [lenS] at hq);cbv)|(refine Nm fun _ _=>?_;cbv)|(refine Br.t ?_ ?_;(focus first|assumption|lia);cbv)|(refine Br.f ?_ ?_;(focus first|assumption|lia);cbv)|(refine Br.mk (fun _=>?_) (fun _=>?_)<;>cbv)|(refine Need.mk ?_ ?_;rotate_left;cbv)|(refine R0 ?_;cbv))
   all_goals first|lia|exact retB x2 x1
  | false =>
   rw[hg,if_neg (by simp)] at hf
   rw[hk.1] at hk1
   by_cases h8:f.subs.length=8
   ·obtain⟨x2,x1⟩:=hrt (openE_full hm hk hg h8)
    clear hrt
    refine go (fn:=Proofs.Tryz.f156) (n:=79) (rv:=[ResultVar.cell 6 62,ResultVar.tmp 7]) rfl (by decide) rfl (by decide +kernel) rfl rfl (by simp) fun F L C=>?_
    cbv
    (repeat' first|(refine Na ?_ fun _ _=>?_;(focus lia);cbv)|(refine CallThen.boolT (C.fn (rkey_fn O n)) ?_ ?_;(focus assumption);cbv)|(refine CallThen.boolF (C.fn (rkey_fn O n)) ?_ ?_;(focus assumption);cbv)|(refine CallThen.bool (C.fn (rkey_fn O n)) (fun _=>?_) (fun _=>?_)<;>cbv)|(refine CallThen.mk _ _ (C.fn (ratS_fn O f n (by lia))) ?_;cbv)|(refine Nl fun _ _ hq=>?_;(try simp only [lenS] at hq);cbv)|(refine Nm fun _ _=>?_;cbv)|(refine Br.t ?_ ?_;(focus first|assumption|lia);cbv)|(refine Br.f ?_ ?_;(focus first|assumption|lia);cbv)|(refine Br.mk (fun _=>?_) (fun _=>?_)<;>cbv)|(refine Need.mk ?_ ?_;rotate_left;cbv)|(refine R0 ?_;cbv))
    all_goals first|lia|exact retB x2 x1
   ·by_cases hb:a<f.base
    ·obtain⟨x2,x1⟩:=hrt (openE_old hm hk hg h8 hb)
     clear hrt
     refine go (fn:=Proofs.Tryz.f156) (n:=79) (rv:=[ResultVar.cell 6 62,ResultVar.tmp 7]) rfl (by decide) rfl (by decide +kernel) rfl rfl (by simp) fun F L C=>?_
     cbv
     (repeat' first|(refine Na ?_ fun _ _=>?_;(focus lia);cbv)|(refine CallThen.boolT (C.fn (rkey_fn O n)) ?_ ?_;(focus assumption);cbv)|(refine CallThen.boolF (C.fn (rkey_fn O n)) ?_ ?_;(focus assumption);cbv)|(refine CallThen.bool (C.fn (rkey_fn O n)) (fun _=>?_) (fun _=>?_)<;>cbv)|(refine CallThen.mk _ _ (C.fn (ratS_fn O f n (by lia))) ?_;cbv)|(refine Nl fun _ _ hq=>?_;(try simp only [lenS] at hq);cbv)|(refine Nm fun _ _=>?_;cbv)|(refine Br.t ?_ ?_;(focus first|assumption|lia);cbv)|(refine Br.f ?_ ?_;(focus first|assumption|lia);cbv)|(refine Br.mk (fun _=>?_) (fun _=>?_)<;>cbv)|(refine Need.mk ?_ ?_;rotate_left;cbv)|(refine R0 ?_;cbv))
     all_goals first|lia|exact retB x2 x1
    ·obtain⟨x1,x2⟩:=openE_ok hm hk hg h8 hb
     have x1':O.o openE f n a=0:=by rw[O.h];exact x1
     have x2':O.o openR f n a=openF f n a:=by rw[O.h];exact x2
     clear hrt
     refine go (fn:=Proofs.Tryz.f156) (n:=79) (rv:=[ResultVar.cell 6 62,ResultVar.tmp 7]) rfl (by decide) rfl (by decide +kernel) rfl rfl (by simp) fun F L C=>?_
     cbv
     (repeat' first|(refine Na ?_ fun _ _=>?_;(focus lia);cbv)|(refine CallThen.boolT (C.fn (rkey_fn O n)) ?_ ?_;(focus assumption);cbv)|(refine CallThen.boolF (C.fn (rkey_fn O n)) ?_ ?_;(focus assumption);cbv)|(refine CallThen.bool (C.fn (rkey_fn O n)) (fun _=>?_) (fun _=>?_)<;>cbv)|(refine CallThen.mk _ _ (C.fn (ratS_fn O f n (by lia))) ?_;cbv)|(refine Nl fun _ _ hq=>?_;(try simp only [lenS] at hq);cbv)|(refine Nm fun _ _=>?_;cbv)|(refine Br.t ?_ ?_;(focus first|assumption|lia);cbv)|(refine Br.f ?_ ?_;(focus first|assumption|lia);cbv)|(refine Br.mk (fun _=>?_) (fun _=>?_)<;>cbv)|(refine Need.mk ?_ ?_;rotate_left;cbv)|(refine R0 ?_;cbv))
     all_goals try lia
     refine LoopThen.mk (C.loopAt (ι:=Nat) [(8,9),(41,65)] (fun k=>[(7,.int .i64 0),(8,.ref 2688),(9,.int .i64 k),(40,.top)]) (fun k=>[(320,.box (f.enc O)),(512,.box [.int .i64 0,.int .i64 0,.nils,.nils]),(2688,.arr 0 none 2 (O.o (takeS f.subs) k))])
      (fun k=>k≤posK Sub.name f.subs n) (fun k=>N-k) (by decide +kernel) (Start.mk z [] [] (by lia) ?_) ?_)
     ·cbv
      (repeat' apply And.intro)<;>first|exact True.intro|exact WkR.refl _|rfl|(exact .of_eq (by simp only [O.h];rw[hz];rfl))|lia|trace_state
     intro k g
     cbv
     have hpl:=posK_le (κ:=Sub.name) f.subs n
     have htl:(O.o (takeS f.subs) k).length≤k:=by rw[O.h];exact takeS_len _ _
     by_cases hkl:k<posK Sub.name f.subs n
     ·obtain⟨x,hx⟩:∃ x,f.subs[k]?=some x:=⟨f.subs[k]'(by omega),by simp⟩
      have hlt:=posK_lo (κ:=Sub.name) f.subs n k x hkl hx
      have hsu:O.o (takeS f.subs) (k+1)=O.o (takeS f.subs) k++[x.enc]:=by simp only [O.h];exact takeS_succ hx
      (repeat' first|(refine Na ?_ fun _ _=>?_;(focus lia);cbv)|(refine Ex.known O Sub.enc rfl hx ?_ ?_;(focus lia);cbv)|(refine Back.up [(2688,.loc 4288)] [] ?_ ?_ fun _ _=>?_;rotate_left 2;cbv;refine And.intro ?_ ?_)|(refine Nl fun _ _ hq=>?_;(try simp only [lenS] at hq);cbv)|(refine Nm fun _ _=>?_;cbv)|(refine Br.t ?_ ?_;(focus first|assumption|lia);cbv)|(refine Br.f ?_ ?_;(focus first|assumption|lia);cbv)|(refine Br.mk (fun _=>?_) (fun _=>?_)<;>cbv)|(refine Need.mk ?_ ?_;rotate_left;cbv)|(refine R0 ?_;cbv))
      all_goals(repeat' apply And.intro)
      all_goals try first
       | exact True.intro
       | exact WkR.refl _
       | (simp only [List.length_cons,List.length_nil] at *;clear hx hsu hlt;lia)
      all_goals first
       | (rename_i R eR n1 e1 k2 ek2;subst ek2;exact .of_eq (by rw[eR];exact hsu))
       | trace_state
     ·have hke:k=posK Sub.name f.subs n:=by omega
      have hfin:O.o Subs.enc (openF f n a).subs=O.o (takeS f.subs) k++[[.str n,.int .i64 a]]++(O.o Subs.enc f.subs).drop k:=by
       simp only [O.h]
       rw[openF,insKZ,posKZ_nat,← hke]
       simp only [insK,takeS,Subs.enc,List.map_append,List.map_cons,List.map_drop,List.append_assoc,List.singleton_append]
       rfl
      have htl2:(O.o (takeS f.subs) k).length=k:=by rw[O.h,takeS,Subs.enc_len,List.length_take];omega
      by_cases hkn:k<f.subs.length
      ·obtain⟨x,hx⟩:∃ x,f.subs[k]?=some x:=⟨f.subs[k]'(by omega),by simp⟩
       have hge:=posK_hi hso n k x (by omega) hx
       (repeat' first|(refine Na ?_ fun _ _=>?_;(focus lia);cbv)|(refine Ex.known O Sub.enc rfl hx ?_ ?_;(focus lia);cbv)|(refine RetThen.mk [] [5184] ?_;cbv)|(refine Nl fun _ _ hq=>?_;(try simp only [lenS] at hq);cbv)|(refine Nm fun _ _=>?_;cbv)|(refine Br.t ?_ ?_;(focus first|assumption|lia);cbv)|(refine Br.f ?_ ?_;(focus first|assumption|lia);cbv)|(refine Br.mk (fun _=>?_) (fun _=>?_)<;>cbv)|(refine Need.mk ?_ ?_;rotate_left;cbv)|(refine R0 ?_;cbv))
       all_goals try(simp only [List.length_cons,List.length_nil] at *;clear hx hge hfin;lia)
       all_goals
        rename_i n1 e1 n2 e2 A eA hA B eB hB R eR
        have en:n2.toNat=k:=by rw[e2,htl2];rfl
        refine retS x2' rfl rfl rfl (by rw[eR,eA,eB,en,hfin]) fun rs=>?_
        cbv
        exact⟨x1',trivial⟩
      ·(repeat' first|(refine Na ?_ fun _ _=>?_;(focus lia);cbv)|(refine RetThen.mk [] [5184] ?_;cbv)|(refine Nl fun _ _ hq=>?_;(try simp only [lenS] at hq);cbv)|(refine Nm fun _ _=>?_;cbv)|(refine Br.t ?_ ?_;(focus first|assumption|lia);cbv)|(refine Br.f ?_ ?_;(focus first|assumption|lia);cbv)|(refine Br.mk (fun _=>?_) (fun _=>?_)<;>cbv)|(refine Need.mk ?_ ?_;rotate_left;cbv)|(refine R0 ?_;cbv))
       all_goals try(simp only [List.length_cons,List.length_nil] at *;clear hfin;lia)
       all_goals
        rename_i n1 e1 n2 e2 A eA hA B eB hB R eR
        have en:n2.toNat=k:=by rw[e2,htl2];rfl
        refine retS x2' rfl rfl rfl (by rw[eR,eA,eB,en,hfin]) fun rs=>?_
        cbv
        exact⟨x1',trivial⟩
 ·obtain⟨x2,x1⟩:=hrt (openE_arg hm hk)
  clear hrt
  refine go (fn:=Proofs.Tryz.f156) (n:=79) (rv:=[ResultVar.cell 6 62,ResultVar.tmp 7]) rfl (by decide) rfl (by decide +kernel) rfl rfl (by simp) fun F L C=>?_
  cbv
  (repeat' first|(refine Na ?_ fun _ _=>?_;(focus lia);cbv)|(refine CallThen.bool (C.fn (rkey_fn O n)) (fun _=>?_) (fun _=>?_)<;>cbv)|(refine CallThen.mk _ _ (C.fn (ratS_fn O f n (by lia))) ?_;cbv)|(refine Nl fun _ _ hq=>?_;(try simp only [lenS] at hq);cbv)|(refine Nm fun _ _=>?_;cbv)|(refine Br.t ?_ ?_;(focus first|assumption|lia);cbv)|(refine Br.f ?_ ?_;(focus first|assumption|lia);cbv)|(refine Br.mk (fun _=>?_) (fun _=>?_)<;>cbv)|(refine Need.mk ?_ ?_;rotate_left;cbv)|(refine R0 ?_;cbv))
  all_goals first
   | exact retB x2 x1
   | (exfalso;rw[← hk1] at hk;exact hk ⟨by assumption,by lia,by lia⟩)
   | trace_state
set_option maxHeartbeats 4000000 in
theorem rack_fn (O:Opq) (f:Feed) (n:ByteArray) (a:Int) (hm:mayF f=true):Fn prog 157 [.agg (f.enc O),.str n,.int .i64 a] [] [.agg (Feed.enc O (O.o ackR f n a)),.int .i64 (O.o ackE f n a)] []:=by
 have hl2:=Subs.len O f.subs
 have hso:=mayF_subs hm
 have hs8:f.subs.length≤8:=(mayF_iff.1 hm).1.2.2.2.2
 have hrt:∀ {e:Int},ackE f n a=e∧ackR f n a=f→O.o ackR f n a=f∧O.o ackE f n a=e:=fun h=>by simp only [O.h];exact h.symm
 have hf:O.o (findI (hasK Sub.name n)) f.subs=if getK Sub.name f.subs n=true then(posK Sub.name f.subs n:Int) else -1:=by rw[O.h];exact findI_hasK hso
 cases hg:getK Sub.name f.subs n with
 | false =>
  rw[hg,if_neg (by simp)] at hf
  obtain⟨x2,x1⟩:=hrt (ackE_none (a:=a) hm hg)
  clear hrt
  refine go (fn:=Proofs.Tryz.f157) (n:=39) (rv:=[ResultVar.cell 6 62,ResultVar.tmp 7]) rfl (by decide) rfl (by decide +kernel) rfl rfl (by simp) fun F L C=>?_
  cbv
  (repeat' first|(refine Na ?_ fun _ _=>?_;(focus lia);cbv)|(refine CallThen.mk _ _ (C.fn (ratS_fn O f n (by lia))) ?_;cbv)|(refine Nl fun _ _ hq=>?_;(try simp only [lenS] at hq);cbv)|(refine Nm fun _ _=>?_;cbv)|(refine Br.t ?_ ?_;(focus first|assumption|lia);cbv)|(refine Br.f ?_ ?_;(focus first|assumption|lia);cbv)|(refine Br.mk (fun _=>?_) (fun _=>?_)<;>cbv)|(refine Need.mk ?_ ?_;rotate_left;cbv)|(refine R0 ?_;cbv))
  all_goals first|lia|exact retB x2 x1
 | true =>
  rw[hg,if_pos rfl] at hf
  obtain⟨s,hs1,hs2⟩:=posK_there hso hg
  have hsp:=subPos_at hs1
  have hpl:posK Sub.name f.subs n<f.subs.length:=(List.getElem?_eq_some_iff.1 hs1).1
  have hst:=ack_set (O:=O) (f:=f) (n:=n) (a:=a) (k:=posK Sub.name f.subs n) (s:=s) posKZ_nat hs2
  have hat:=ratS_fn O f n (by lia)
  obtain⟨k,hk⟩:∃ k,k=posK Sub.name f.subs n:=⟨_,rfl⟩
  rw[← hk] at hs1 hpl hst hf
  rw[hf] at hat
  have hsr:(O.o Subs.enc f.subs)[k]?=some s.enc:=by rw[O.h,Subs.enc,List.getElem?_map,hs1];rfl
  by_cases h1:f.total<a
  ·obtain⟨x2,x1⟩:=hrt (ackE_arg hm hg h1)
   clear hrt hst
   refine go (fn:=Proofs.Tryz.f157) (n:=39) (rv:=[ResultVar.cell 6 62,ResultVar.tmp 7]) rfl (by decide) rfl (by decide +kernel) rfl rfl (by simp) fun F L C=>?_
   cbv
   (repeat' first|(refine Na ?_ fun _ _=>?_;(focus lia);cbv)|(refine CallThen.mk _ _ (C.fn (hat)) ?_;cbv)|(refine Nl fun _ _ hq=>?_;(try simp only [lenS] at hq);cbv)|(refine Nm fun _ _=>?_;cbv)|(refine Br.t ?_ ?_;(focus first|assumption|lia);cbv)|(refine Br.f ?_ ?_;(focus first|assumption|lia);cbv)|(refine Br.mk (fun _=>?_) (fun _=>?_)<;>cbv)|(refine Need.mk ?_ ?_;rotate_left;cbv)|(refine R0 ?_;cbv))
   all_goals first|lia|exact retB x2 x1
  ·by_cases h2:a<subPos f n
   ·obtain⟨x2,x1⟩:=hrt (ackE_old hm hg h1 h2)
    clear hrt hst
    rw[hsp] at h2
    refine go (fn:=Proofs.Tryz.f157) (n:=39) (rv:=[ResultVar.cell 6 62,ResultVar.tmp 7]) rfl (by decide) rfl (by decide +kernel) rfl rfl (by simp) fun F L C=>?_
    cbv
    (repeat' first|(refine Na ?_ fun _ _=>?_;(focus lia);cbv)|(refine CallThen.mk _ _ (C.fn (hat)) ?_;cbv)|(refine Ex.known O Sub.enc rfl hs1 ?_ ?_;(focus lia);cbv)|(refine Nl fun _ _ hq=>?_;(try simp only [lenS] at hq);cbv)|(refine Nm fun _ _=>?_;cbv)|(refine Br.t ?_ ?_;(focus first|assumption|lia);cbv)|(refine Br.f ?_ ?_;(focus first|assumption|lia);cbv)|(refine Br.mk (fun _=>?_) (fun _=>?_)<;>cbv)|(refine Need.mk ?_ ?_;rotate_left;cbv)|(refine R0 ?_;cbv))
    all_goals first|lia|exact retB x2 x1
   ·obtain⟨y1,y2⟩:=ackE_ok hm hg h1 h2
    have x1:O.o ackE f n a=0:=by rw[O.h];exact y1
    have x2:O.o ackR f n a=ackF f n a:=by rw[O.h];exact y2
    clear hrt
    rw[hsp] at h2
    refine go (fn:=Proofs.Tryz.f157) (n:=39) (rv:=[ResultVar.cell 6 62,ResultVar.tmp 7]) rfl (by decide) rfl (by decide +kernel) rfl rfl (by simp) fun F L C=>?_
    cbv
    (repeat' first|(refine Na ?_ fun _ _=>?_;(focus lia);cbv)|(refine CallThen.mk _ _ (C.fn (hat)) ?_;cbv)|(refine Ex.known O Sub.enc rfl hs1 ?_ ?_;(focus lia);cbv)|(refine Ex.at (Sub.enc s) ?_ ?_;rotate_left;cbv)|(refine RetThen.mk [] [2240] ?_;cbv)|(refine Nl fun _ _ hq=>?_;(try simp only [lenS] at hq);cbv)|(refine Nm fun _ _=>?_;cbv)|(refine Br.t ?_ ?_;(focus first|assumption|lia);cbv)|(refine Br.f ?_ ?_;(focus first|assumption|lia);cbv)|(refine Br.mk (fun _=>?_) (fun _=>?_)<;>cbv)|(refine Need.mk ?_ ?_;rotate_left;cbv)|(refine R0 ?_;cbv))
    all_goals try(simp only [List.length_nil] at *;clear hst hs1 hsr;lia)
    ·rename_i R1 eR1 hq1 i1 ei1 R eR
     refine retS x2 rfl rfl rfl (by rw[hst,eR,eR1,show i1=k from ei1];rfl) fun rs=>?_
     cbv
     exact⟨x1,trivial⟩
    ·rename_i R1 eR1 i1 ei1
     refine⟨by clear hst hs1 hsr;lia,?_⟩
     rw[eR1,show(Int.ofNat i1).toNat=k from ei1]
     exact hsr
set_option maxHeartbeats 4000000 in
theorem rclose_fn (O:Opq) (f:Feed) (n:ByteArray) (hm:mayF f=true):Fn prog 158 [.agg (f.enc O),.str n] [] [.agg (Feed.enc O (O.o closeR f n)),.int .i64 (O.o closeE f n)] []:=by
 have hl2:=Subs.len O f.subs
 have hso:=mayF_subs hm
 have hs8:f.subs.length≤8:=(mayF_iff.1 hm).1.2.2.2.2
 have hrt:∀ {e:Int},closeE f n=e∧closeR f n=f→O.o closeR f n=f∧O.o closeE f n=e:=fun h=>by simp only [O.h];exact h.symm
 have hf:O.o (findI (hasK Sub.name n)) f.subs=if getK Sub.name f.subs n=true then(posK Sub.name f.subs n:Int) else -1:=by rw[O.h];exact findI_hasK hso
 cases hg:getK Sub.name f.subs n with
 | false =>
  rw[hg,if_neg (by simp)] at hf
  obtain⟨x2,x1⟩:=hrt (closeE_none hm hg)
  clear hrt
  refine go (fn:=Proofs.Tryz.f158) (n:=25) (rv:=[ResultVar.cell 4 62,ResultVar.tmp 5]) rfl (by decide) rfl (by decide +kernel) rfl rfl (by simp) fun F L C=>?_
  cbv
  (repeat' first|(refine Na ?_ fun _ _=>?_;(focus lia);cbv)|(refine CallThen.mk _ _ (C.fn (ratS_fn O f n (by lia))) ?_;cbv)|(refine Nl fun _ _ hq=>?_;(try simp only [lenS] at hq);cbv)|(refine Nm fun _ _=>?_;cbv)|(refine Br.t ?_ ?_;(focus first|assumption|lia);cbv)|(refine Br.f ?_ ?_;(focus first|assumption|lia);cbv)|(refine Br.mk (fun _=>?_) (fun _=>?_)<;>cbv)|(refine Need.mk ?_ ?_;rotate_left;cbv)|(refine R0 ?_;cbv))
  all_goals first|lia|exact retB x2 x1
 | true =>
  rw[hg,if_pos rfl] at hf
  obtain⟨s,hs1,hs2⟩:=posK_there hso hg
  have hpl:posK Sub.name f.subs n<f.subs.length:=(List.getElem?_eq_some_iff.1 hs1).1
  have hat:=ratS_fn O f n (by lia)
  have hce:∀ k,k=posK Sub.name f.subs n→O.o Subs.enc (closeF f n).subs=(O.o Subs.enc f.subs).take k++(O.o Subs.enc f.subs).drop (k+1):=fun k hk=>by
   simp only [O.h,closeF,posKZ_nat,← hk,Subs.enc,List.eraseIdx_eq_take_drop_succ,List.map_append,List.map_take,List.map_drop]
  obtain⟨k,hk⟩:∃ k,k=posK Sub.name f.subs n:=⟨_,rfl⟩
  replace hce:=hce k hk
  rw[← hk] at hpl hf
  rw[hf] at hat
  obtain⟨y1,y2⟩:=closeE_ok hm hg
  have x1:O.o closeE f n=0:=by rw[O.h];exact y1
  have x2:O.o closeR f n=closeF f n:=by rw[O.h];exact y2
  clear hrt hs1
  refine go (fn:=Proofs.Tryz.f158) (n:=25) (rv:=[ResultVar.cell 4 62,ResultVar.tmp 5]) rfl (by decide) rfl (by decide +kernel) rfl rfl (by simp) fun F L C=>?_
  cbv
  (repeat' first|(refine Na ?_ fun _ _=>?_;(focus lia);cbv)|(refine CallThen.mk _ _ (C.fn (hat)) ?_;cbv)|(refine RetThen.mk [] [1664] ?_;cbv)|(refine Nl fun _ _ hq=>?_;(try simp only [lenS] at hq);cbv)|(refine Nm fun _ _=>?_;cbv)|(refine Br.t ?_ ?_;(focus first|assumption|lia);cbv)|(refine Br.f ?_ ?_;(focus first|assumption|lia);cbv)|(refine Br.mk (fun _=>?_) (fun _=>?_)<;>cbv)|(refine Need.mk ?_ ?_;rotate_left;cbv)|(refine R0 ?_;cbv))
  all_goals try(simp only [List.length_nil] at *;clear hce;lia)
  all_goals try(clear hce;(repeat' apply And.intro)<;>lia)
  all_goals trace_state
  all_goals
   rename_i A eA hA B eB hB n1 en C eC hC R eR
   refine retS x2 rfl rfl rfl (by rw[hce,eR,eB,eA,eC,en];rfl) fun rs=>?_
   cbv
   exact⟨x1,trivial⟩
end Go.Sym
