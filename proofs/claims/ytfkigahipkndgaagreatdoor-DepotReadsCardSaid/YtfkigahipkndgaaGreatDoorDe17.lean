/- The law DepotReads, walked. -/
import Derived.Test.YtfkigahipkndgaaGreatDoorK30
set_option linter.all false
set_option linter.unusedVariables false
set_option linter.unusedSimpArgs false
namespace Go.Sym
open Go Go.Proofs.Tryz
set_option maxRecDepth 100000
def snapO:Opn:=.mk 13 ByteArray.empty ByteArray.empty [] [] false 0 0 [] [] []
def pullO (n:Int):Opn:=.mk 12 ByteArray.empty ByteArray.empty [] [] false n 16 [] [] []
theorem snap_reads (d:Depot):depotR d ⟨0,0,snapO⟩=(d,⟨0,false,[],d.docs,[],d.feed.total,0,[]⟩):=by
 rw[depotR,if_pos (by simp [turnsB,snapO,Opn.kind]),readsA,if_neg (by simp [snapO,Opn.kind]),if_neg (by simp [snapO,Opn.kind]),if_neg (by simp [snapO,Opn.kind]),if_pos (show(Reqn.op ⟨0,0,snapO⟩).kind=13 from rfl)]
theorem pull_reads {d:Depot} (hf:mayF d.feed=true) (h:d.feed.total≠d.feed.base):∃ c,depotR d ⟨0,0,pullO (d.feed.total-1)⟩=(d,⟨0,false,[],[],[c],0,d.feed.total,[]⟩)∧c.pos=d.feed.total:=by
 obtain⟨⟨a1,a2,a3,a4,a5⟩,b,c⟩:=mayF_iff.1 hf
 have hp:=pullE_ok (f:=d.feed) (a:=d.feed.total-1) (m:=16) ⟨hf,by omega,by omega,by omega,by omega⟩ (by omega)
 have hl:0<d.feed.changes.length:=by omega
 have he:pullF d.feed (d.feed.total-1) 16=[d.feed.changes[d.feed.changes.length-1]]:=by
  rw[pullF,show(d.feed.total-1-d.feed.base).toNat=d.feed.changes.length-1 by omega,List.drop_eq_getElem_cons (by omega)]
  rw[show d.feed.changes.length-1+1=d.feed.changes.length by omega,List.drop_length]
  rfl
 refine⟨d.feed.changes[d.feed.changes.length-1],?_,?_⟩
 ·rw[depotR,if_pos (by simp [turnsB,pullO,Opn.kind]),readsA,if_neg (by simp [pullO,Opn.kind]),if_neg (by simp [pullO,Opn.kind]),if_pos (show(Reqn.op ⟨0,0,pullO (d.feed.total-1)⟩).kind=12 from rfl)]
  rw[show(Reqn.op ⟨0,0,pullO (d.feed.total-1)⟩).n=d.feed.total-1 from rfl,show(Reqn.op ⟨0,0,pullO (d.feed.total-1)⟩).most=16 from rfl,if_pos hp.1,hp.2,he]
 ·have:=(b (d.feed.changes.length-1) _ (by omega) (List.getElem?_eq_getElem (by omega))).1
  omega
theorem dapply_q (O:Opq) (d:Depot) (k n m:Int) {M:Nat} (h:DepFew d M) (hm:M≤1000) (D':Depot) (A':Answer) (hR:depotR d ⟨0,0,.mk k ByteArray.empty ByteArray.empty [] [] false n m [] [] []⟩=(D',A')) :
  Fn prog 29 [.agg (d.enc O),.agg [.int .i64 0,.int .i64 0,.int .i64 k,.str ByteArray.empty,.str ByteArray.empty,.nils,.nils,.bool false,.int .i64 n,.int .i64 m,.nils,.nils,.nils]] [] [.agg (D'.enc O),.agg (A'.enc O),.int .i64 0] []:=by
 have k1:=dapply_ok O d ⟨0,0,.mk k ByteArray.empty ByteArray.empty [] [] false n m [] [] []⟩ h hm ⟨by simp [Opn.doc],by simp [Opn.want],by simp [Opn.list],by simp [Opn.list]⟩ D' A' hR
 have e1:O.o (Nms.enc O) []=[]:=by rw[O.h];rfl
 have e2:O.o (Chs.enc O) []=[]:=by rw[O.h];rfl
 have e3:O.o (Ops.enc O) []=[]:=by rw[O.h];rfl
 have e4:O.o Doc.enc []=[]:=by rw[O.h];rfl
 refine k1.wkA (.cons (.refl _) (.cons ?_ .nil))
 show WkA (.agg [.int .i64 0,.int .i64 0,.int .i64 k,.str ByteArray.empty,.str ByteArray.empty,.sl false 0 false 6 (O.o Doc.enc []),.sl false 0 false 6 (O.o Doc.enc []),.bool false,.int .i64 n,.int .i64 m,.sl false 0 false 11 (O.o (Ops.enc O) []),.sl false 0 false 2 (O.o (Nms.enc O) []),.sl false 0 false 4 (O.o (Chs.enc O) [])]) _
 rw[e1,e2,e3,e4]
 exact .agg' (.cons (.refl _) (.cons (.refl _) (.cons (.refl _) (.cons (.refl _) (.cons (.refl _) (.cons (.wk (.nil _ _)) (.cons (.wk (.nil _ _)) (.cons (.refl _) (.cons (.refl _) (.cons (.refl _) (.cons (.wk (.nil _ _)) (.cons (.wk (.nil _ _)) (.cons (.wk (.nil _ _)) .nil)))))))))))))
set_option maxHeartbeats 4000000 in
theorem depotReads_fn (O:Opq) (d:Depot) (q:Reqn) (ha:DepArg d):Fn prog 8 [.agg (d.enc O),.agg (q.en O)] [] [.bool true] []:=by
 have g1:=llight14_fn O d ha.docs.1 ha.chs.1 ha.last
 have g2:=llight_fn O q.op
 have aw:=awake14_fn O
 by_cases hg:lightDp d=true∧lightO q.op=true
 ·rw[show O.o lightDp d=true by rw[O.h];exact hg.1] at g1
  rw[show O.o lightO q.op=true by rw[O.h];exact hg.2] at g2
  have hL:=lightDp_iff.1 hg.1
  have hsd:=smallD_iff.1 hL.2.1
  have hlf:=lightF_iff.1 hL.2.2.1
  have hll:=hL.2.2.2
  have k3:=rmay14_fn O d ⟨by omega,fun n hn=>⟨by have:=hsd.2 n hn;omega,ha.docs.2 n hn⟩⟩ ⟨by omega,by omega,fun c hc=>⟨by have:=hlf.1.2 c hc;omega,(ha.chs.2 c hc).2⟩⟩ (by omega)
  by_cases hm:mayDp d=true
  ·rw[show O.o mayDp d=true by rw[O.h];exact hm] at k3
   have hF:=light_few hg.1 hm
   have hso:=light_small hg.2 1099511627 (by decide)
   obtain⟨D',A',hR⟩:∃ D' A',depotR d q=(D',A'):=⟨_,_,rfl⟩
   have hF':DepFew D' (60+4)∧FewA A':=by have h:=depotR_few q hF;rw[hR] at h;exact h
   have k1:=dapply_ok O d q hF (by decide) hso D' A' hR
   have k4:=dapply_q O D' 13 0 0 hF'.1 (by decide) _ _ (snap_reads D')
   have k5:=DepSz.same O (hF'.1.sz (by decide))
   obtain⟨n1,n2,n3⟩:=mayDp_iff.1 hF'.1.may
   have y:=mayD_iff.1 n1
   have k6:=docs_same O D'.docs (by omega) (fun n hn=>by have:=may_len (y.2.1 n hn).2;omega)
   have fb:=(mayF_in n2 (Nat.le_trans hF'.1.chs (by decide))).2.2.2
   by_cases hbt:D'.feed.total=D'.feed.base
   ·clear hF hF' hso hR hm hsd hlf hll hL hg ha n1 n2 n3 y fb
    obtain⟨docs,⟨base,total,chs,subs⟩,l⟩:=d
    obtain⟨qc,qi,⟨kind,key,to,doc,want,has,n,most,ops,ods,ons⟩⟩:=q
    obtain⟨docs',⟨base',total',chs',subs'⟩,l'⟩:=D'
    obtain⟨ac,ah,ad,ads,ans,an,at',ak⟩:=A'
    replace hbt:total'=base':=hbt
    subst hbt
    refine go (fn:=Proofs.Tryz.f8) (n:=122) (rv:=[ResultVar.tmp 4]) rfl (by decide) rfl (by decide +kernel) rfl rfl (by simp) fun F L C=>?_
    cbv
    (repeat' first|(refine Na ?_ fun _ _=>?_;(focus lia);cbv)|(refine CallThen.mk _ _ (C.fn (g1)) ?_;cbv)|(refine CallThen.mk _ _ (C.fn (g2)) ?_;cbv)|(refine CallThen.mk _ _ (C.fn (k1)) ?_;cbv)|(refine CallThen.mk _ _ (C.fn (k3)) ?_;cbv)|(refine CallThen.mk _ _ (C.fn (k4)) ?_;cbv)|(refine CallThen.mk _ _ (C.fn (k5)) ?_;cbv)|(refine CallThen.mk _ _ (C.fn (k6)) ?_;cbv)|(refine CallThen.mk _ _ (C.fn (aw)) ?_;cbv)|(refine Nl fun _ _ hq=>?_;(try simp only [lenS] at hq);cbv)|(refine Nm fun _ _=>?_;cbv)|(refine Br.t ?_ ?_;(focus first|assumption|lia);cbv)|(refine Br.f ?_ ?_;(focus first|assumption|lia);cbv)|(refine Br.mk (fun _=>?_) (fun _=>?_)<;>cbv)|(refine Need.mk ?_ ?_;rotate_left;cbv)|(refine R0 ?_;cbv))
    all_goals first
     | exact⟨rfl,trivial⟩
     | trace_state
   ·obtain⟨c,hc1,hc2⟩:=pull_reads n2 hbt
    have k7:∀ v,v=D'.feed.total-1→Fn prog 29 [.agg (D'.enc O),.agg [.int .i64 0,.int .i64 0,.int .i64 12,.str ByteArray.empty,.str ByteArray.empty,.nils,.nils,.bool false,.int .i64 v,.int .i64 16,.nils,.nils,.nils]] [] [.agg (D'.enc O),.agg (Answer.enc O ⟨0,false,[],[],[c],0,D'.feed.total,[]⟩),.int .i64 0] []:=fun v hv=>by
     subst hv;exact dapply_q O D' 12 (D'.feed.total-1) 16 hF'.1 (by decide) _ _ hc1
    have hcl:=Chs.len O [c]
    have hc0:[c][0]?=some c:=rfl
    have hb1:0≤D'.feed.total∧D'.feed.total≤2147483647:=by omega
    clear hF hF' hso hR hm hsd hlf hll hL hg ha n1 n2 n3 y fb hc1
    obtain⟨docs,⟨base,total,chs,subs⟩,l⟩:=d
    obtain⟨qc,qi,⟨kind,key,to,doc,want,has,n,most,ops,ods,ons⟩⟩:=q
    obtain⟨docs',⟨base',total',chs',subs'⟩,l'⟩:=D'
    obtain⟨ac,ah,ad,ads,ans,an,at',ak⟩:=A'
    obtain⟨CC,eC⟩:∃ C,C=[c]:=⟨_,rfl⟩
    rw[← eC] at k7 hcl hc0
    have hC1:CC.length=1:=by rw[eC];rfl
    clear eC
    obtain⟨cp,ck,ch,cd⟩:=c
    replace hc2:cp=total':=hc2
    replace hbt:¬ total'=base':=hbt
    replace hb1:0≤total'∧total'≤2147483647:=hb1
    replace hcl:(O.o (Chs.enc O) CC).length=1:=by rw[hcl,hC1]
    refine go (fn:=Proofs.Tryz.f8) (n:=122) (rv:=[ResultVar.tmp 4]) rfl (by decide) rfl (by decide +kernel) rfl rfl (by simp) fun F L C=>?_
    cbv
    (repeat' first|(refine Na ?_ fun _ _=>?_;(focus lia);cbv)|(refine CallThen.mk _ _ (C.fn (g1)) ?_;cbv)|(refine CallThen.mk _ _ (C.fn (g2)) ?_;cbv)|(refine CallThen.mk _ _ (C.fn (k1)) ?_;cbv)|(refine CallThen.mk _ _ (C.fn (k3)) ?_;cbv)|(refine CallThen.mk _ _ (C.fn (k4)) ?_;cbv)|(refine CallThen.mk _ _ (C.fn (k5)) ?_;cbv)|(refine CallThen.mk _ _ (C.fn (k6)) ?_;cbv)|(refine CallThen.mk _ _ (C.fn (aw)) ?_;cbv)|(refine Ex.known O (Change.enc O) rfl hc0 ?_ ?_;(focus lia);cbv)|(refine CallThen.mk _ _ (C.fn (k7 _ ?_)) ?_;rotate_left;cbv)|(refine Nl fun _ _ hq=>?_;(try simp only [lenS] at hq);cbv)|(refine Nm fun _ _=>?_;cbv)|(refine Br.t ?_ ?_;(focus first|assumption|lia);cbv)|(refine Br.f ?_ ?_;(focus first|assumption|lia);cbv)|(refine Br.mk (fun _=>?_) (fun _=>?_)<;>cbv)|(refine Need.mk ?_ ?_;rotate_left;cbv)|(refine R0 ?_;cbv))
    all_goals first
     | exact⟨rfl,trivial⟩
     | (exfalso;clear g1 g2 k1 k3 k4 k5 k6 k7 aw hc0;lia)
     | (clear g1 g2 k1 k3 k4 k5 k6 k7 aw hc0;lia)
     | trace_state
  ·have hm:mayDp d=false:=by simpa using hm
   rw[show O.o mayDp d=false by rw[O.h];exact hm] at k3
   clear hm hsd hlf hll hL hg ha
   obtain⟨docs,⟨base,total,chs,subs⟩,l⟩:=d
   obtain⟨qc,qi,⟨kind,key,to,doc,want,has,n,most,ops,ods,ons⟩⟩:=q
   refine go (fn:=Proofs.Tryz.f8) (n:=122) (rv:=[ResultVar.tmp 4]) rfl (by decide) rfl (by decide +kernel) rfl rfl (by simp) fun F L C=>?_
   cbv
   (repeat' first|(refine Na ?_ fun _ _=>?_;(focus lia);cbv)|(refine CallThen.mk _ _ (C.fn (g1)) ?_;cbv)|(refine CallThen.mk _ _ (C.fn (g2)) ?_;cbv)|(refine CallThen.mk _ _ (C.fn (k3)) ?_;cbv)|(refine CallThen.mk _ _ (C.fn (aw)) ?_;cbv)|(refine Nl fun _ _ hq=>?_;(try simp only [lenS] at hq);cbv)|(refine Nm fun _ _=>?_;cbv)|(refine Br.t ?_ ?_;(focus first|assumption|lia);cbv)|(refine Br.f ?_ ?_;(focus first|assumption|lia);cbv)|(refine Br.mk (fun _=>?_) (fun _=>?_)<;>cbv)|(refine Need.mk ?_ ?_;rotate_left;cbv)|(refine R0 ?_;cbv))
   all_goals first
    | exact⟨rfl,trivial⟩
    | trace_state
 ·obtain⟨s1,e1⟩:∃ s,s=O.o lightDp d:=⟨_,rfl⟩
  obtain⟨s2,e2⟩:∃ s,s=O.o lightO q.op:=⟨_,rfl⟩
  have hg:¬ (s1=true∧s2=true):=by rw[e1,e2,O.h,O.h];exact hg
  rw[← e1] at g1
  rw[← e2] at g2
  clear e1 e2 ha
  obtain⟨docs,⟨base,total,chs,subs⟩,l⟩:=d
  obtain⟨qc,qi,⟨kind,key,to,doc,want,has,n,most,ops,ods,ons⟩⟩:=q
  cases s1<;>cases s2
  all_goals try(exfalso;exact hg ⟨rfl,rfl⟩)
  all_goals
   refine go (fn:=Proofs.Tryz.f8) (n:=122) (rv:=[ResultVar.tmp 4]) rfl (by decide) rfl (by decide +kernel) rfl rfl (by simp) fun F L C=>?_
   cbv
   (repeat' first|(refine Na ?_ fun _ _=>?_;(focus lia);cbv)|(refine CallThen.mk _ _ (C.fn (g1)) ?_;cbv)|(refine CallThen.mk _ _ (C.fn (g2)) ?_;cbv)|(refine CallThen.mk _ _ (C.fn (aw)) ?_;cbv)|(refine Nl fun _ _ hq=>?_;(try simp only [lenS] at hq);cbv)|(refine Nm fun _ _=>?_;cbv)|(refine Br.t ?_ ?_;(focus first|assumption|lia);cbv)|(refine Br.f ?_ ?_;(focus first|assumption|lia);cbv)|(refine Br.mk (fun _=>?_) (fun _=>?_)<;>cbv)|(refine Need.mk ?_ ?_;rotate_left;cbv)|(refine R0 ?_;cbv))
   all_goals first
    | exact⟨rfl,trivial⟩
    | trace_state
end Go.Sym
