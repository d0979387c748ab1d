/- What one law more needs. -/
import Derived.Test.YtbneclkckmdkgaaGreatDoorJ1
import Derived.Test.YtbneclkckmdkgaaGreatDoorJ2
import Derived.Test.YtbneclkckmdkgaaGreatDoorJ3
import Derived.Test.YtbneclkckmdkgaaGreatDoorJ5
import Derived.Test.YtbneclkckmdkgaaGreatDoorK1
import Derived.Test.YtbneclkckmdkgaaGreatDoorK3
import Derived.Test.YtbneclkckmdkgaaGreatDoorK5
import Derived.Test.YtbneclkckmdkgaaGreatDoorK2
import Derived.Test.YtbneclkckmdkgaaGreatDoorJ4
import Derived.Test.YtbneclkckmdkgaaGreatDoorJ6
import Derived.Test.YtbneclkckmdkgaaGreatDoorK4
import Derived.Test.YtbneclkckmdkgaaGreatDoorK6
import Derived.Test.YtbneclkckmdkgaaGreatDoorK7
import Derived.Test.YtbneclkckmdkgaaGreatDoorK8
import Derived.Test.YtbneclkckmdkgaaGreatDoorK9
import Derived.Test.YtbneclkckmdkgaaGreatDoorK10
import Derived.Test.YtbneclkckmdkgaaGreatDoorK11
import Derived.Test.YtbneclkckmdkgaaGreatDoorK12
import Derived.Test.YtbneclkckmdkgaaGreatDoorK13
import Derived.Test.YtbneclkckmdkgaaGreatDoorK14
import Derived.Test.YtbneclkckmdkgaaGreatDoorK15
import Derived.Test.YtbneclkckmdkgaaGreatDoorK16
import Derived.Test.YtbneclkckmdkgaaGreatDoorK17
import Derived.Test.YtbneclkckmdkgaaGreatDoorK18
import Derived.Test.YtbneclkckmdkgaaGreatDoorK19
import Derived.Test.YtbneclkckmdkgaaGreatDoorK20
import Derived.Test.YtbneclkckmdkgaaGreatDoorK21
import Derived.Test.YtbneclkckmdkgaaGreatDoorK22
import Derived.Test.YtbneclkckmdkgaaGreatDoorK25
import Derived.Test.YtbneclkckmdkgaaGreatDoorK26
import Derived.Test.YtbneclkckmdkgaaGreatDoorK27
import Derived.Test.YtbneclkckmdkgaaGreatDoorK28
import Derived.Test.YtbneclkckmdkgaaGreatDoorK29
import Derived.Test.YtbneclkckmdkgaaGreatDoorK23
import Derived.Test.YtbneclkckmdkgaaGreatDoorK30
import Derived.Test.YtbneclkckmdkgaaGreatDoorK31
import Derived.Test.YtbneclkckmdkgaaGreatDoorK24
import Derived.Test.YtbneclkckmdkgaaGreatDoorK32
import Derived.OpenShut
import Derived.ChangeArms
import Derived.DataReads
set_option linter.all false
set_option linter.unusedVariables false
set_option linter.unusedSimpArgs false
namespace Go.Sym
open Go
section
variable {H:Type} {enc:TypeId×Value→H} {P:Program} {w:World} {spare:Nat→Bool} {held:Bool}
theorem arg_one {ts:List Nat} (hts:closedB P ts=true) {t:Nat} (ht:memN ts t=true) {v:Value} {d:DataW H} {ps:List MemPlace} (h:DataW.Trod enc P w 0 spare held t v d ps) (hv:v.cells.toList=[v]) :
  ∃ n x,shape P n t [x]∧Rep (rc0 w) x v:=by
 obtain⟨n,h⟩:=h
 rw[hv] at h
 obtain⟨xs,hx⟩:=trod_rep hts n t _ _ (memN_iff.1 ht) h
 match xs,hx.len,hx with
 | [x],_,hx=>exact⟨n,x,hx.shape,.plain (hx.rep 0 x v rfl rfl)⟩
end
end Go.Sym
namespace Go.Sym
open Go
theorem applyC_rev {c:Cnf} {k:CmdK} (hm:mayC c):(applyC c k).1.rev=c.rev∨(applyC c k).1.rev=c.rev+1:=by
 by_cases h:(applyC c k).2=0
 ·rcases applyC_step hm h with ⟨_,e⟩ | ⟨_,d,st,hr,hn,e⟩
  ·rw[e];exact .inl rfl
  ·rw[e];exact .inr (by show d.rev+1=_;rw[hr])
 ·rw[applyC_err hm h];exact .inl rfl
theorem applyC_grows {c:Cnf} {k:CmdK} (hm:mayC c):∀ now∈(applyC c k).1.chains,1≤now.mem.length ∧
  match atC c now.id with
  | none=>now.epoch=1
  | some j=>∃ was,c.chains[j]?=some was∧(now=was∨grewC was now):=by
 intro now hnow
 have hM:=applyC_may (k:=k) hm
 refine⟨(hM.2.2.2.1 now hnow).2.2.1.1,?_⟩
 have same:now∈c.chains→match atC c now.id with
  | none=>now.epoch=1
  | some j=>∃ was,c.chains[j]?=some was∧(now=was∨grewC was now):=fun h=>by
  obtain⟨i,hi,e⟩:=List.getElem_of_mem h
  have hx:c.chains[i]?=some now:=by rw[List.getElem?_eq_getElem hi,e]
  rw[atC_at hm.2.2.2.2 hx]
  exact⟨now,hx,.inl rfl⟩
 by_cases h:(applyC c k).2=0
 ·rcases applyC_step hm h with ⟨_,e⟩ | ⟨_,d,st,hr,hn,e⟩
  ·rw[e] at hnow;exact same hnow
  ·rw[e] at hnow
   cases st with
   | @turn i x h0 h1 h2 h3 =>
    rcases List.mem_or_eq_of_mem_set hnow with hy|rfl
    ·exact same hy
    ·have g:=turnC_grew h3
     rw[g.1,atC_at hm.2.2.2.2 h2]
     exact⟨x,h2,.inr g⟩
   | index h0 h1 h2 h3 h4 h5 =>
    rcases List.mem_append.1 hnow with hy|hy
    ·exact same hy
    ·simp at hy;subst hy
     cases ha:atC c (c.ever+1) with
     | none=>simp only [ha]
     | some j =>
      obtain⟨y,hy,e2,_⟩:=atC_some ha
      have:=(hm.2.2.2.1 y (List.mem_of_getElem? hy)).2.1
      omega
   | @drop i h0 h1 h2=>exact same (List.mem_of_mem_eraseIdx hnow)
 ·rw[applyC_err hm h] at hnow;exact same hnow
end Go.Sym
namespace Go.Sym
open Go Go.Proofs Go.Proofs.Tryz
set_option maxRecDepth 10000
theorem shape_cmdks {n:Nat} {x:PV} (h:shape prog n 22 [x]):∃ l:List CmdK,Wk (.sl false 0 false 6 (l.map (CmdK.enc Opq.id))) x∧l.length≤9223372036854775807∧∀ c∈l,c.In:=by
 cases n with
 | zero=>exact h.elim
 | succ n =>
  simp only [shape,Tryz.underlying22,cCo6] at h
  rcases h with h | ⟨rows,h,hl,hr⟩
  ·cases h
   exact⟨[],.nil _ _,by simp,by simp⟩
  ·cases h
   obtain⟨l,hw,hll,hi⟩:=rows_wkx (fun r hr=>shape_cmdk hr) hr
   exact⟨l,.sl' rfl rfl hw,by rw[hll];simpa [maxLen] using hl,hi⟩
end Go.Sym
namespace Go.Sym
open Go Go.Proofs.Tryz
set_option maxRecDepth 100000
theorem rAt_fn (O:Opq) (rev ever id:Int) (chains:List Chn) (hl:chains.length≤1000000):Fn prog 7 [.agg [.int .i64 rev,.int .i64 ever,.sl false 0 false 5 (O.o (Chns.enc O) chains)],.int .i64 id] [] [.int .i64 (O.o (findG (idP id)) chains)] []:=by
 have hlen:=Chns.len O chains
 obtain⟨Q,eQ⟩:∃ Q,Q=O.o (findG (idP id)) chains:=⟨_,rfl⟩
 rw[← eQ]
 have hQ:Q=findG (idP id) chains:=by rw[eQ,O.h]
 clear eQ
 obtain⟨z,hz⟩:∃ z:Nat,z=0:=⟨_,rfl⟩
 obtain⟨N,hN⟩:∃ N:Nat,N=chains.length:=⟨_,rfl⟩
 refine go (fn:=Go.Proofs.Tryz.f7) (n:=20) (rv:=[ResultVar.tmp 4]) rfl (by decide) rfl (by decide +kernel) rfl rfl (by simp) fun F L C=>?_
 cbv
 (repeat' first|(refine Na ?_ fun _ _=>?_;(focus lia);cbv)|(refine Nl fun _ _ hq=>?_;(try simp only [lenS] at hq);cbv)|(refine Nm fun _ _=>?_;cbv)|(refine Br.t ?_ ?_;(focus first|assumption|lia);cbv)|(refine Br.f ?_ ?_;(focus first|assumption|lia);cbv)|(refine Br.mk (fun _=>?_) (fun _=>?_)<;>cbv)|(refine Need.mk ?_ ?_;rotate_left;cbv)|(refine R0 ?_;cbv))
 refine LoopThen.mk (C.loopAt (ι:=Nat) [(4,21)] (fun k=>[(5,.int .i64 k)]) (fun _=>[(256,.box [.int .i64 rev,.int .i64 ever,.sl false 0 false 5 (O.o (Chns.enc O) chains)])])
  (fun k=>k≤chains.length∧∀ (j:Nat) x,j<k→chains[j]?=some x→idP id x=false) (fun k=>N-k) (by decide +kernel) (Start.mk z [] [] ⟨by omega,fun j x hj=>by omega⟩ ?_) ?_)
 ·cbv
  (repeat' apply And.intro)<;>first|exact True.intro|exact WkR.refl _|rfl|lia|trace_state
 intro k g
 cbv
 have g1:k≤chains.length:=g.1
 have g2:∀ (j:Nat) x,j<k→chains[j]?=some x→idP id x=false:=g.2
 clear g
 by_cases hk:k<chains.length
 ·obtain⟨⟨xi,xd,xe,xm,xj⟩,hx⟩:∃ x,chains[k]?=some x:=⟨chains[k],by simp [hk]⟩
  have hyes:xi=id→Q=k:=fun e=>by rw[hQ];exact findG_at hx (by simp [idP,e]) g2
  have hst:¬ xi=id→∀ (j:Nat) y,j<k+1→chains[j]?=some y→idP id y=false:=fun h j y hj hy=>by
   by_cases ej:j=k
   ·subst ej;rw[hx] at hy;cases hy;simp [idP,h]
   ·exact g2 j y (by omega) hy
  clear g2 hQ
  (repeat' first|(refine Na ?_ fun _ _=>?_;(focus lia);cbv)|(refine Ex.chn O hx ?_ ?_;(focus lia);cbv)|(refine Back.up [] [] ?_ ?_ fun _ _=>?_;rotate_left 2;cbv;refine And.intro ?_ ?_)|(refine Nl fun _ _ hq=>?_;(try simp only [lenS] at hq);cbv)|(refine Nm fun _ _=>?_;cbv)|(refine Br.t ?_ ?_;(focus first|assumption|lia);cbv)|(refine Br.f ?_ ?_;(focus first|assumption|lia);cbv)|(refine Br.mk (fun _=>?_) (fun _=>?_)<;>cbv)|(refine Need.mk ?_ ?_;rotate_left;cbv)|(refine R0 ?_;cbv))
  all_goals try first
   | exact⟨by clear hst hx hyes;lia,hst (by assumption)⟩
   | exact⟨hyes (by assumption),trivial⟩
   | (refine⟨.refl _,?_,trivial⟩;clear hst hx hyes;lia)
   | (clear hst hx hyes;lia)
  all_goals(repeat' apply And.intro)
  all_goals first
   | exact True.intro
   | exact WkR.refl _
   | exact hst (by assumption)
   | (clear hst hx hyes;lia)
   | trace_state
 ·have hno:Q=-1:=by rw[hQ];exact findG_no fun j x hj hx=>g2 j x (by omega) hx
  clear g2 hQ
  (repeat' first|(refine Na ?_ fun _ _=>?_;(focus lia);cbv)|(refine Nl fun _ _ hq=>?_;(try simp only [lenS] at hq);cbv)|(refine Nm fun _ _=>?_;cbv)|(refine Br.t ?_ ?_;(focus first|assumption|lia);cbv)|(refine Br.f ?_ ?_;(focus first|assumption|lia);cbv)|(refine Br.mk (fun _=>?_) (fun _=>?_)<;>cbv)|(refine Need.mk ?_ ?_;rotate_left;cbv)|(refine R0 ?_;cbv))
  all_goals first
   | exact⟨hno,trivial⟩
   | (exfalso;lia)
   | trace_state
end Go.Sym
namespace Go.Sym
open Go Go.Proofs.Tryz
set_option maxRecDepth 100000
def Cmds.enc (O:Opq) (l:List CmdK):List (List PV):=l.map (CmdK.enc O)
theorem Cmds.len (O:Opq) (l:List CmdK):(O.o (Cmds.enc O) l).length=l.length:=by rw[O.h,Cmds.enc,List.length_map]
theorem Ex.cmd (O:Opq) {l:List CmdK} {k:Nat} {x:CmdK} (hx:l[k]?=some x) {i:Int} {K:List PV→Prop} (hi:i=k) (h:K (x.enc O)):Ex (List PV) (fun row=>0≤i∧(O.o (Cmds.enc O) l)[i.toNat]?=some row) K :=
 .mk (x.enc O) ⟨by omega,by rw[O.h,Cmds.enc,List.getElem?_map,hi,Int.toNat_natCast,hx];rfl⟩ h
theorem Ex.numE (O:Opq) {l:List Int} {k:Nat} {v:Int} (hx:l[k]?=some v) {i:Int} {K:List PV→Prop} (hi:i=k) (h:K [.int .i64 v]):Ex (List PV) (fun row=>0≤i∧(O.o NumsE l)[i.toNat]?=some row) K :=
 .mk [.int .i64 v] ⟨by omega,by rw[O.h,NumsE,List.getElem?_map,hi,Int.toNat_natCast,hx];rfl⟩ h
set_option maxHeartbeats 8000000 in
theorem confGrows_fn (O:Opq) (l:List CmdK) (hl:l.length≤9223372036854775807):Fn prog 3 [.sl false 0 false 6 (O.o (Cmds.enc O) l)] [] [.bool true] []:=by
 have kw:=awake19_fn O
 have hlen:=Cmds.len O l
 have e0:O.o (Chns.enc O) []=[]:=by rw[O.h];rfl
 obtain⟨N,hN⟩:∃ N:Nat,N=l.length:=⟨_,rfl⟩
 obtain⟨z,hz⟩:∃ z:Nat×Cnf,z=(0,cnf0):=⟨_,rfl⟩
 have hz1:z.1=0:=by rw[hz]
 have hz2:z.2=cnf0:=by rw[hz]
 refine goM (modeOf 6 [.keep,.keep]) (fn:=Go.Proofs.Tryz.f3) (n:=187) (rv:=[ResultVar.tmp 2]) rfl (by decide) rfl (by decide +kernel) rfl rfl (by simp) fun F L C=>?_
 cbv
 refine LoopThen.mk (C.loopAt (ι:=Nat×Cnf) [(2,2),(4,13),(15,186)] (fun x=>[(4,.int .i64 x.1)]) (fun x=>[(320,.box [.int .i64 x.2.rev,.int .i64 x.2.ever,.sl false 0 false 5 (O.o (Chns.enc O) x.2.chains)])])
  (fun x=>x.1≤N∧x.1≤60∧mayC x.2∧∀ y∈x.2.chains,y.dfn.size≤600) (fun x=>N-x.1) (by decide +kernel) (Start.mk (0,cnf0) [] [] ⟨Nat.zero_le _,Nat.zero_le _,may0,by simp [cnf0]⟩ ?_) ?_)
 ·cbv
  (repeat' apply And.intro)<;>first|exact True.intro|exact WkR.refl _|rfl|(clear kw;lia)|trace_state
 intro x g
 obtain⟨k,⟨rev,ever,chains⟩⟩:=x
 have g1:k≤N:=g.1
 have g2:k≤60:=g.2.1
 have hm:mayC ⟨rev,ever,chains⟩:=g.2.2.1
 have hdf:∀ y∈chains,y.dfn.size≤600:=g.2.2.2
 clear g
 cbv
 by_cases hk:k<l.length∧k<60
 ·obtain⟨c,hx⟩:∃ x,l[k]?=some x:=⟨l[k]'hk.1,by simp⟩
  have hk1:=hk.1
  have hk2:=hk.2
  have hn:=NumsE.len O c.nodes
  by_cases hb:20<c.nodes.length∨600<c.dfn.size
  ·clear kw
   have hi:(k+1≤N∧k+1≤60∧mayC ⟨rev,ever,chains⟩∧∀ y∈chains,y.dfn.size≤600)∧N-(k+1)<N-k:=⟨⟨by omega,by omega,hm,hdf⟩,by omega⟩
   clear hm hdf
   obtain⟨k1,k2,k3,k4,k5,k6⟩:=c
   have hn:(O.o NumsE k6).length=k6.length:=hn
   have hb:20<k6.length∨600<k5.size:=hb
   (repeat' first|(refine Na ?_ fun _ _=>?_;(focus lia);cbv)|(refine Ex.cmd O hx ?_ ?_;(focus lia);cbv)|(refine Back.of (i:=(k+1,⟨rev,ever,chains⟩)) [] [] ?_ ?_;(focus cbv))|(refine Nl fun _ _ hq=>?_;(try simp only [lenS] at hq);cbv)|(refine Nm fun _ _=>?_;cbv)|(refine Br.t ?_ ?_;(focus first|assumption|lia);cbv)|(refine Br.f ?_ ?_;(focus first|assumption|lia);cbv)|(refine Br.mk (fun _=>?_) (fun _=>?_)<;>cbv)|(refine Need.mk ?_ ?_;rotate_left;cbv)|(refine R0 ?_;cbv))
   all_goals first
    | exact hi
    | (clear hi hx;lia)
    | (exfalso;clear hi hx;lia)
    | (refine⟨.refl _,.refl _,.refl _,?_,trivial⟩;clear hi hx;lia)
    | (refine⟨.refl _,.refl _,?_,trivial⟩;clear hi hx;lia)
    | trace_state
  ·have hb1:=not_or.1 hb
   have hbn:¬ 20<c.nodes.length:=hb1.1
   have hbd:¬ 600<c.dfn.size:=hb1.2
   have sm:=may_small hm
   have ka:=apply_fn O ⟨rev,ever,chains⟩ c sm.1 (fun y hy=>⟨sm.2 y hy,by have:=hdf y hy;omega⟩) (by omega) (by omega)
   have hM:=applyC_may (k:=c) hm
   have hdD:=applyC_dfn (k:=c) (n:=600) hm hdf (by omega)
   have hrv:=applyC_rev (k:=c) hm
   have hG:=applyC_grows (k:=c) hm
   have hEq:=fun h=>applyC_err (k:=c) hm h
   have hr:0≤rev∧rev≤2147483647:=hm.1
   obtain⟨D,hD⟩:∃ D,D=(applyC ⟨rev,ever,chains⟩ c).1:=⟨_,rfl⟩
   obtain⟨E,hE⟩:∃ E,E=(applyC ⟨rev,ever,chains⟩ c).2:=⟨_,rfl⟩
   rw[← hD,← hE] at ka
   rw[← hD] at hM hdD hrv hG hEq
   rw[← hE] at hEq
   clear hD hE
   obtain⟨d1,d2,d3⟩:=D
   have smD:=may_small hM
   have hrv:d1=rev∨d1=rev+1:=hrv
   obtain⟨Q,hQ⟩:∃ Q:Bool,Q=true ↔ (d1=rev∧d2=ever∧d3=chains):=by classical exact⟨decide (d1=rev∧d2=ever∧d3=chains),by simp⟩
   have ks:=rsame_fn O d1 d2 rev ever d3 chains smD.1 sm.1 smD.2 sm.2 hQ
   have hQE:E≠0→Q=true:=fun h=>by
    have:=hEq h
    simp only [Cnf.mk.injEq] at this
    exact hQ.2 this
   have ec:Cnf.enc O ⟨rev,ever,chains⟩=[.int .i64 rev,.int .i64 ever,.sl false 0 false 5 (O.o (Chns.enc O) chains)]:=rfl
   have ed:Cnf.enc O ⟨d1,d2,d3⟩=[.int .i64 d1,.int .i64 d2,.sl false 0 false 5 (O.o (Chns.enc O) d3)]:=rfl
   rw[ec,ed] at ka
   have hi:(k+1≤N∧k+1≤60∧mayC ⟨d1,d2,d3⟩∧∀ y∈d3,y.dfn.size≤600)∧N-(k+1)<N-k:=⟨⟨by omega,by omega,hM,hdD⟩,by omega⟩
   have hGs:∀ now∈d3,1≤now.mem.length∧match atC ⟨rev,ever,chains⟩ now.id with
    | none=>now.epoch=1
    | some j=>∃ was,chains[j]?=some was∧(now=was∨grewC was now):=hG
   have hepD:∀ now∈d3,1≤now.epoch∧now.epoch≤2147483647:=fun y hy=>by have h:=(hM.2.2.2.1 y hy).2.2.2.1;exact⟨h.1,h.2⟩
   have hepC:∀ now∈chains,1≤now.epoch∧now.epoch≤2147483647:=fun y hy=>by have h:=(hm.2.2.2.1 y hy).2.2.2.1;exact⟨h.1,h.2⟩
   have hlC:=Chns.len O chains
   have hlD:=Chns.len O d3
   clear hM hdD hG hEq hQ ec ed hm hdf kw hb hb1
   obtain⟨M,hMM⟩:∃ M:Nat,M=d3.length:=⟨_,rfl⟩
   obtain⟨z0,hz0⟩:∃ z:Nat,z=0:=⟨_,rfl⟩
   obtain⟨k1,k2,k3,k4,k5,k6⟩:=c
   have hn:(O.o NumsE k6).length=k6.length:=hn
   have hbn:¬ 20<k6.length:=hbn
   have hbd:¬ 600<k5.size:=hbd
   (repeat' first|(refine Na ?_ fun _ _=>?_;(focus lia);cbv)|(refine Ex.cmd O hx ?_ ?_;(focus lia);cbv)|(refine CallThen.mk _ _ (C.fn (ka)) ?_;cbv)|(refine CallThen.bool (C.fn (ks)) (fun _=>?_) (fun _=>?_)<;>cbv)|(refine Nl fun _ _ hq=>?_;(try simp only [lenS] at hq);cbv)|(refine Nm fun _ _=>?_;cbv)|(refine Br.t ?_ ?_;(focus first|assumption|lia);cbv)|(refine Br.f ?_ ?_;(focus first|assumption|lia);cbv)|(refine Br.mk (fun _=>?_) (fun _=>?_)<;>cbv)|(refine Need.mk ?_ ?_;rotate_left;cbv)|(refine R0 ?_;cbv))
   all_goals try first
    | (exfalso;clear ka ks hx hi hGs hepD hepC;grind)
    | (clear ka ks hx hi hGs hepD hepC;lia)
   all_goals
    clear ka ks hx hQE hn hbn hbd
    refine LoopThen.mk (C.loopAt (ι:=Nat) [(2,2),(7,13),(73,185)] (fun j=>[(7,.int .i64 j)]) (fun _=>[(320,.box [.int .i64 rev,.int .i64 ever,.sl false 0 false 5 (O.o (Chns.enc O) chains)]),(448,.box [.int .i64 d1,.int .i64 d2,.sl false 0 false 5 (O.o (Chns.enc O) d3)])])
     (fun j=>j≤M) (fun j=>M-j) (by decide +kernel) (Start.mk z0 [] [] (show z0≤M by omega) ?_) ?_)
    ·cbv
     (repeat' apply And.intro)<;>first|exact True.intro|exact WkR.refl _|rfl|(clear hi hGs hepD hepC;lia)|trace_state
    intro j g
    cbv
    have g1:j≤M:=g
    clear g
    by_cases hj:j<d3.length
    ·obtain⟨⟨id,dfn,ep,mem,jo⟩,hy⟩:∃ x,d3[j]?=some x:=⟨d3[j],by simp [hj]⟩
     have hmem:=List.mem_of_getElem? hy
     obtain⟨hg1,hg2⟩:=hGs _ hmem
     have hg1:1≤mem.length:=hg1
     have he1:1≤ep∧ep≤2147483647:=hepD _ hmem
     have hml:mem.length≤1000000:=smD.2 _ hmem
     have hdl:d3.length≤1000000:=smD.1
     have hcl:chains.length≤1000000:=sm.1
     have hnl:=NumsE.len O mem
     have kt:=rAt_fn O rev ever id chains sm.1
     rw[O.h (findG (idP id))] at kt
     have hg2:match atC ⟨rev,ever,chains⟩ id with
      | none=>ep=1
      | some j=>∃ was,chains[j]?=some was∧((⟨id,dfn,ep,mem,jo⟩:Chn)=was∨grewC was ⟨id,dfn,ep,mem,jo⟩):=hg2
     cases hat:atC ⟨rev,ever,chains⟩ id with
     | none =>
      rw[hat] at hg2
      have hg2:ep=1:=hg2
      rw[show findG (idP id) chains=-1 from at_none hat] at kt
      clear hGs hepD hepC hi hat hmem sm smD
      have hw:=hy
      (repeat' first|(refine Na ?_ fun _ _=>?_;(focus lia);cbv)|(refine Ex.chn O hy ?_ ?_;(focus lia);cbv)|(refine Ex.chn O hw ?_ ?_;(focus lia);cbv)|(refine CallThen.mk _ _ (C.fn (kt)) ?_;cbv)|(fail)|(refine Back.up [] [] ?_ ?_ fun _ _=>?_;rotate_left 2;cbv;refine And.intro ?_ ?_)|(refine Nl fun _ _ hq=>?_;(try simp only [lenS] at hq);cbv)|(refine Nm fun _ _=>?_;cbv)|(refine Br.t ?_ ?_;(focus first|assumption|lia);cbv)|(refine Br.f ?_ ?_;(focus first|assumption|lia);cbv)|(refine Br.mk (fun _=>?_) (fun _=>?_)<;>cbv)|(refine Need.mk ?_ ?_;rotate_left;cbv)|(refine R0 ?_;cbv))
      all_goals first
       | ((repeat' apply And.intro)<;>first|exact True.intro|exact WkR.refl _|(clear kt hy hw;lia))
       | (exfalso;clear kt hy hw;lia)
       | trace_state
     | some i =>
      rw[hat] at hg2
      obtain⟨⟨id',dfn',ep',mem',jo'⟩,hw,hg2⟩:=hg2
      have hs:=at_some hat
      rw[show findG (idP id) chains=i from hs.1] at kt
      have hil:i<chains.length:=hs.2
      have hwm:=List.mem_of_getElem? hw
      have hml':mem'.length≤1000000:=sm.2 _ hwm
      have he2:1≤ep'∧ep'≤2147483647:=hepC _ hwm
      have hnl':=NumsE.len O mem'
      have ki:=rints_fn O mem mem' hml hml'
      have ki2:=rints_fn O (mem.take mem'.length) mem' (by rw[List.length_take];omega) hml'
      clear hGs hepD hepC hi hat hmem sm smD hwm hs
      rcases hg2 with he | ⟨q1,q2,q3,q4⟩
      ·simp only [Chn.mk.injEq] at he
       obtain⟨rfl,rfl,rfl,rfl,rfl⟩:=he
       have ks2:=rsame_fn O 0 0 0 0 [⟨id,dfn,ep,mem,jo⟩] [⟨id,dfn,ep,mem,jo⟩] (by simp) (by simp) (by simpa using hml) (by simpa using hml) (Q:=true) (by simp)
       rw[show O.o (Chns.enc O) [⟨id,dfn,ep,mem,jo⟩]=[[.int .i64 id,.str dfn,.int .i64 ep,.sl false 0 false 1 (O.o NumsE mem),.int .i64 jo]] by rw[O.h];rfl] at ks2
       clear ki ki2
       (repeat' first|(refine Na ?_ fun _ _=>?_;(focus lia);cbv)|(refine Ex.chn O hy ?_ ?_;(focus lia);cbv)|(refine Ex.chn O hw ?_ ?_;(focus lia);cbv)|(refine CallThen.mk _ _ (C.fn (kt)) ?_;cbv)|(refine CallThen.mk _ _ (C.fn (Fn.wkA (ks2) ?_)) ?_;(focus((repeat' apply WkAL.cons)<;>first|exact WkAL.nil|exact WkA.refl _|exact WkA.lend rfl|exact WkA.bor rfl (WkR.refl _)|exact WkA.wk (Wk.nil _ _)|exact WkA.wk (Wk.sl' rfl rfl (WkR.refl _))|(refine WkA.agg' ?_;((repeat' apply WkAL.cons)<;>first|exact WkAL.nil|exact WkA.refl _|exact WkA.lend rfl|exact WkA.bor rfl (WkR.refl _)|exact WkA.wk (Wk.nil _ _)|exact WkA.wk (Wk.sl' rfl rfl (WkR.refl _))|(refine WkA.agg' ?_;((repeat' apply WkAL.cons)<;>first|exact WkAL.nil|exact WkA.refl _|exact WkA.lend rfl|exact WkA.bor rfl (WkR.refl _)|exact WkA.wk (Wk.nil _ _)|exact WkA.wk (Wk.sl' rfl rfl (WkR.refl _))))))));cbv)|(refine Back.up [] [] ?_ ?_ fun _ _=>?_;rotate_left 2;cbv;refine And.intro ?_ ?_)|(refine Nl fun _ _ hq=>?_;(try simp only [lenS] at hq);cbv)|(refine Nm fun _ _=>?_;cbv)|(refine Br.t ?_ ?_;(focus first|assumption|lia);cbv)|(refine Br.f ?_ ?_;(focus first|assumption|lia);cbv)|(refine Br.mk (fun _=>?_) (fun _=>?_)<;>cbv)|(refine Need.mk ?_ ?_;rotate_left;cbv)|(refine R0 ?_;cbv))
       all_goals first
        | ((repeat' apply And.intro)<;>first|exact True.intro|exact WkR.refl _|(clear kt ks2 hy hw;lia))
        | (exfalso;clear kt ks2 hy hw;lia)
        | trace_state
      ·have q3:ep=ep'+1:=q3
       rcases q4 with q4|q4|q4
       ·have q4:mem=mem':=q4
        subst q4
        rw[O.h (sameI mem),show sameI mem mem=true by simp [sameI]] at ki
        clear ki2
        (repeat' first|(refine Na ?_ fun _ _=>?_;(focus lia);cbv)|(refine Ex.chn O hy ?_ ?_;(focus lia);cbv)|(refine Ex.chn O hw ?_ ?_;(focus lia);cbv)|(refine CallThen.mk _ _ (C.fn (kt)) ?_;cbv)|(refine CallThen.mk _ _ (C.fn (ki)) ?_;cbv)|(refine Back.up [] [] ?_ ?_ fun _ _=>?_;rotate_left 2;cbv;refine And.intro ?_ ?_)|(refine Nl fun _ _ hq=>?_;(try simp only [lenS] at hq);cbv)|(refine Nm fun _ _=>?_;cbv)|(refine Br.t ?_ ?_;(focus first|assumption|lia);cbv)|(refine Br.f ?_ ?_;(focus first|assumption|lia);cbv)|(refine Br.mk (fun _=>?_) (fun _=>?_)<;>cbv)|(refine Need.mk ?_ ?_;rotate_left;cbv)|(refine R0 ?_;cbv))
        all_goals first
         | ((repeat' apply And.intro)<;>first|exact True.intro|exact WkR.refl _|(clear kt ki hy hw;lia))
         | (exfalso;clear kt ki hy hw;lia)
         | trace_state
       ·have q4:mem.length+1=mem'.length:=q4
        clear ki2 ki
        (repeat' first|(refine Na ?_ fun _ _=>?_;(focus lia);cbv)|(refine Ex.chn O hy ?_ ?_;(focus lia);cbv)|(refine Ex.chn O hw ?_ ?_;(focus lia);cbv)|(refine CallThen.mk _ _ (C.fn (kt)) ?_;cbv)|(fail)|(refine Back.up [] [] ?_ ?_ fun _ _=>?_;rotate_left 2;cbv;refine And.intro ?_ ?_)|(refine Nl fun _ _ hq=>?_;(try simp only [lenS] at hq);cbv)|(refine Nm fun _ _=>?_;cbv)|(refine Br.t ?_ ?_;(focus first|assumption|lia);cbv)|(refine Br.f ?_ ?_;(focus first|assumption|lia);cbv)|(refine Br.mk (fun _=>?_) (fun _=>?_)<;>cbv)|(refine Need.mk ?_ ?_;rotate_left;cbv)|(refine R0 ?_;cbv))
        all_goals first
         | ((repeat' apply And.intro)<;>first|exact True.intro|exact WkR.refl _|(clear kt hy hw;lia))
         | (exfalso;clear kt hy hw;lia)
         | trace_state
       ·have q4:mem=mem'++[jo']:=q4
        have hlen2:mem.length=mem'.length+1:=by rw[q4];simp
        have htk:mem.take mem'.length=mem':=by rw[q4];simp
        have hen:∀ l,O.o NumsE l=l.map (fun x=>[PV.int .i64 x]):=fun l=>by rw[O.h];rfl
        obtain⟨n',hn'⟩:∃ n:Int,n=((O.o NumsE mem').length:Int):=⟨_,rfl⟩
        have hn2:n'=mem'.length:=by rw[hn',hnl']
        have htk2:O.o NumsE mem'=List.take (n'.toNat-Int.toNat 0) (List.drop (Int.toNat 0) (O.o NumsE mem)):=by
         rw[hen,hen,show n'.toNat-Int.toNat 0=mem'.length by rw[hn2];simp,show Int.toNat 0=0 from rfl,List.drop_zero,← List.map_take,htk]
        have hel:mem[mem'.length]?=some jo':=by rw[q4];simp
        rw[htk,O.h (sameI mem'),show sameI mem' mem'=true by simp [sameI]] at ki2
        clear ki hen htk q4
        (repeat' first|(refine Named.at' n' hn' ?_;cbv)|(refine Named.at' (O.o NumsE mem') htk2 ?_;cbv)|(refine Na ?_ fun _ _=>?_;(focus lia);cbv)|(refine Ex.chn O hy ?_ ?_;(focus lia);cbv)|(refine Ex.chn O hw ?_ ?_;(focus lia);cbv)|(refine CallThen.mk _ _ (C.fn (kt)) ?_;cbv)|(refine Ex.numE O hel ?_ ?_;(focus lia);cbv)|(refine CallThen.mk _ _ (C.fn (ki2)) ?_;cbv)|(refine Back.up [] [] ?_ ?_ fun _ _=>?_;rotate_left 2;cbv;refine And.intro ?_ ?_)|(refine Nl fun _ _ hq=>?_;(try simp only [lenS] at hq);cbv)|(refine Nm fun _ _=>?_;cbv)|(refine Br.t ?_ ?_;(focus first|assumption|lia);cbv)|(refine Br.f ?_ ?_;(focus first|assumption|lia);cbv)|(refine Br.mk (fun _=>?_) (fun _=>?_)<;>cbv)|(refine Need.mk ?_ ?_;rotate_left;cbv)|(refine R0 ?_;cbv))
        all_goals first
         | ((repeat' apply And.intro)<;>first|exact True.intro|exact WkR.refl _|(clear kt ki2 hy hw htk2 hel;lia))
         | (exfalso;clear kt ki2 hy hw htk2 hel;lia)
         | trace_state
    ·clear hGs hepD hepC sm smD
     (repeat' first|(refine Na ?_ fun _ _=>?_;(focus lia);cbv)|(refine Back.of (i:=(k+1,⟨d1,d2,d3⟩)) [] [] ?_ ?_;(focus cbv))|(refine Nl fun _ _ hq=>?_;(try simp only [lenS] at hq);cbv)|(refine Nm fun _ _=>?_;cbv)|(refine Br.t ?_ ?_;(focus first|assumption|lia);cbv)|(refine Br.f ?_ ?_;(focus first|assumption|lia);cbv)|(refine Br.mk (fun _=>?_) (fun _=>?_)<;>cbv)|(refine Need.mk ?_ ?_;rotate_left;cbv)|(refine R0 ?_;cbv))
     all_goals first
      | exact hi
      | ((repeat' apply And.intro)<;>first|exact True.intro|exact WkR.refl _|(clear hi;lia))
      | (exfalso;clear hi;lia)
      | trace_state
 ·clear hm hdf
  (repeat' first|(refine Na ?_ fun _ _=>?_;(focus lia);cbv)|(refine CallThen.mk _ _ (C.fn (kw)) ?_;cbv)|(refine Nl fun _ _ hq=>?_;(try simp only [lenS] at hq);cbv)|(refine Nm fun _ _=>?_;cbv)|(refine Br.t ?_ ?_;(focus first|assumption|lia);cbv)|(refine Br.f ?_ ?_;(focus first|assumption|lia);cbv)|(refine Br.mk (fun _=>?_) (fun _=>?_)<;>cbv)|(refine Need.mk ?_ ?_;rotate_left;cbv)|(refine R0 ?_;cbv))
  all_goals first
   | exact⟨rfl,trivial⟩
   | (exfalso;clear kw;lia)
   | trace_state
end Go.Sym
namespace Go.Sym
open Go Go.Proofs Go.Proofs.Tryz
set_option maxRecDepth 100000
theorem confGrows_law {n0:Nat} {x0:PV} (s0:shape prog n0 22 [x0]):Fn prog 3 [x0] [] [.bool true] []:=by
 obtain⟨l,wl,l1,_⟩:=shape_cmdks s0
 have h:=confGrows_fn Opq.id l l1
 exact h.wkA (.cons (.wk wl) .nil)
end Go.Sym
