/- Where a subscription stands. -/
import Derived.Test.YtfkigahipkndgaaGreatDoorK2
import Derived.Test.YtfkigahipkndgaaGreatDoorK13
set_option linter.all false
set_option linter.unusedVariables false
set_option linter.unusedSimpArgs false
namespace Go.Sym
open Go Go.Proofs.Tryz
set_option maxRecDepth 100000
theorem atS1_fn (O:Opq) (s:Sub) (p:ByteArray):Fn prog 229 [.agg s.enc,.str p] [] [.int .i64 (O.o (cmpK Sub.name) s p)] []:=by
 refine go (fn:=Proofs.Tryz.f229) (n:=7) (rv:=[ResultVar.tmp 4]) rfl (by decide) rfl (by decide +kernel) rfl rfl (by simp) fun F L C=>?_
 cbv
 (repeat' first|(refine Na ?_ fun _ _=>?_;(focus lia);cbv)|(refine CallThen.mk _ _ (C.fn (cmp_fn O _ _)) ?_;cbv)|(refine Nl fun _ _ hq=>?_;(try simp only [lenS] at hq);cbv)|(refine Nm fun _ _=>?_;cbv)|(refine Br.t ?_ ?_;(focus first|assumption|lia);cbv)|(refine Br.f ?_ ?_;(focus first|assumption|lia);cbv)|(refine Br.mk (fun _=>?_) (fun _=>?_)<;>cbv)|(refine Need.mk ?_ ?_;rotate_left;cbv)|(refine R0 ?_;cbv))
 all_goals exact⟨by simp only [O.h];rfl,trivial⟩
theorem bsearchS_fn (O:Opq) (bo:Bool) (d:List Sub) (p:ByteArray) (hd:d.length≤1099511627776) (hs:sortedK Sub.name d):Fn prog 228 [.sl bo 0 false 2 (O.o Subs.enc d),.str p,.fn 229 [] []] [] [.int .i64 (O.o (posKZ Sub.name) d p),.bool (O.o (getK Sub.name) d p)] []:=by
 have hlen:=Subs.len O d
 obtain⟨N,hN⟩:∃ N:Nat,N=d.length:=⟨_,rfl⟩
 cases bo
 all_goals
  refine go (fn:=Proofs.Tryz.f228) (n:=46) (rv:=[ResultVar.tmp 6,ResultVar.tmp 7]) rfl (by decide) rfl (by decide +kernel) rfl rfl (by simp) fun F L C=>?_
  cbv
  (repeat' first|(refine Na ?_ fun _ _=>?_;(focus lia);cbv)|(refine Nl fun _ _ hq=>?_;(try simp only [lenS] at hq);cbv)|(refine Nm fun _ _=>?_;cbv)|(refine Br.t ?_ ?_;(focus first|assumption|lia);cbv)|(refine Br.f ?_ ?_;(focus first|assumption|lia);cbv)|(refine Br.mk (fun _=>?_) (fun _=>?_)<;>cbv)|(refine Need.mk ?_ ?_;rotate_left;cbv)|(refine R0 ?_;cbv))
  refine LoopThen.mk (C.loopAt (ι:=Int×Int) [(9,11),(15,34)] (fun x=>[(9,.int .i64 x.1),(10,.int .i64 x.2)]) (fun _=>[])
   (fun x=>0≤x.1∧x.1≤x.2∧x.2≤d.length∧(∀ (j:Nat) y,j<x.1→d[j]?=some y→slt y.name p)∧(∀ (j:Nat) y,x.2≤j→d[j]?=some y→¬ slt y.name p)) (fun x=>(x.2-x.1).toNat) (by decide +kernel) (Start.mk (0,(N:Int)) [] [] (by refine⟨by simp,by simp,by simp [hN],fun j y h=>by simp at h;omega,fun j y h1 h2=>?_⟩;have:=(List.getElem?_eq_some_iff.1 h2).1;simp at h1;omega) (by cbv;(repeat' apply And.intro)<;>first|exact True.intro|exact WkR.refl _|rfl|lia)) ?_)
  rintro ⟨i,j⟩ g
  cbv
  obtain⟨h1,h2,h3,h4,h5⟩:=g
  simp only at h1 h2 h3 h4 h5
  (repeat' first|(refine Na ?_ fun _ _=>?_;(focus lia);cbv)|(refine Named.u64 ?_ fun _ _=>?_;(focus lia);cbv)|(refine Named.half fun _ _=>?_;cbv)|(refine Ex.map O Sub.enc rfl ?_ fun x hx=>?_;rotate_left;obtain⟨q,k'⟩:=x;cbv)|(refine CallThen.mk _ _ (C.fn (atS1_fn O ⟨_,_⟩ _)) ?_;cbv)|(apply Back.of (i:=(_,_)) [] [];(focus(cbv;(repeat' apply And.intro)<;>first|exact True.intro|exact WkR.refl _|rfl)))|(refine Nl fun _ _ hq=>?_;(try simp only [lenS] at hq);cbv)|(refine Nm fun _ _=>?_;cbv)|(refine Br.t ?_ ?_;(focus first|assumption|lia);cbv)|(refine Br.f ?_ ?_;(focus first|assumption|lia);cbv)|(refine Br.mk (fun _=>?_) (fun _=>?_)<;>cbv)|(refine Need.mk ?_ ?_;rotate_left;cbv)|(refine R0 ?_;cbv))
  all_goals(try subst_vars)
  all_goals simp only [O.h,cmpK_lt,cmpK_eq] at *
  all_goals(repeat' apply And.intro)
  all_goals first
   | exact True.intro
   | lia
   | assumption
   | (refine bsK_lo hs ?_ (by assumption) (by assumption);lia)
   | (refine bsK_hi hs ?_ (by assumption) (by assumption);lia)
   | exact posKZ_at h1 (by lia) h4 (fun k y hk=>h5 k y (by lia))
   | exact(getK_at h1 (by assumption) hs h4 (fun k y hk=>h5 k y (by lia))).2 (by assumption)
   | (cases hb:getK Sub.name d p with
     | false=>rfl
     | true=>exact absurd ((getK_at h1 (by assumption) hs h4 (fun k y hk=>h5 k y (by lia))).1 hb) (by assumption))
   | exact getK_end (by lia) h4
   | trace_state
theorem atS_fn (O:Opq) (bo:Bool) (f:Feed) (p:ByteArray) (hd:f.subs.length≤1099511627776) (hs:sortedK Sub.name f.subs):Fn prog 196 [.agg (f.encB O false bo),.str p] [] [.int .i64 (O.o (posKZ Sub.name) f.subs p),.bool (O.o (getK Sub.name) f.subs p)] []:=by
 cases bo
 all_goals
  refine go (fn:=Proofs.Tryz.f196) (n:=10) (rv:=[ResultVar.tmp 4,ResultVar.tmp 5]) rfl (by decide) rfl (by decide +kernel) rfl rfl (by simp) fun F L C=>?_
  cbv
  (repeat' first|(refine Na ?_ fun _ _=>?_;(focus lia);cbv)|(refine CallThen.mk _ _ (C.fn (bsearchS_fn O _ _ _ hd hs)) ?_;cbv)|(refine Nl fun _ _ hq=>?_;(try simp only [lenS] at hq);cbv)|(refine Nm fun _ _=>?_;cbv)|(refine Br.t ?_ ?_;(focus first|assumption|lia);cbv)|(refine Br.f ?_ ?_;(focus first|assumption|lia);cbv)|(refine Br.mk (fun _=>?_) (fun _=>?_)<;>cbv)|(refine Need.mk ?_ ?_;rotate_left;cbv)|(refine R0 ?_;cbv))
  all_goals exact⟨rfl,rfl,trivial⟩
theorem ratS_fn (O:Opq) (f:Feed) (p:ByteArray) (hd:f.subs.length≤1099511627776):Fn prog 207 [.agg (f.enc O),.str p] [] [.int .i64 (O.o (findI (hasK Sub.name p)) f.subs)] []:=by
 have hlen:=Subs.len O f.subs
 obtain⟨N,hN⟩:∃ N:Nat,N=f.subs.length:=⟨_,rfl⟩
 obtain⟨z,hz⟩:∃ z:Nat,z=0:=⟨_,rfl⟩
 refine go (fn:=Proofs.Tryz.f207) (n:=20) (rv:=[ResultVar.tmp 4]) rfl (by decide) rfl (by decide +kernel) rfl rfl (by simp) fun F L C=>?_
 cbv
 (repeat' first|(refine Na ?_ fun _ _=>?_;(focus lia);cbv)|(refine Nl fun _ _ hq=>?_;(try simp only [lenS] at hq);cbv)|(refine Nm fun _ _=>?_;cbv)|(refine Br.t ?_ ?_;(focus first|assumption|lia);cbv)|(refine Br.f ?_ ?_;(focus first|assumption|lia);cbv)|(refine Br.mk (fun _=>?_) (fun _=>?_)<;>cbv)|(refine Need.mk ?_ ?_;rotate_left;cbv)|(refine R0 ?_;cbv))
 refine LoopThen.mk (C.loopAt (ι:=Nat) [(4,21)] (fun k=>[(4,.int .i64 0),(5,.int .i64 k)]) (fun _=>[(256,.box (f.enc O))])
  (fun k=>k≤f.subs.length∧∀ (j:Nat) y,j<k→f.subs[j]?=some y→hasK Sub.name p y=false) (fun k=>N-k) (by decide +kernel) (Start.mk z [] [] ⟨by lia,fun j y hj=>by omega⟩ (by cbv;(repeat' apply And.intro)<;>first|exact True.intro|exact WkR.refl _|rfl|lia)) ?_)
 intro k g
 cbv
 have h1:k≤f.subs.length:=g.1
 have h2:=g.2
 clear g
 (repeat' first|(refine Na ?_ fun _ _=>?_;(focus lia);cbv)|(refine Ex.map O Sub.enc rfl ?_ fun x hx=>?_;rotate_left;obtain⟨q,k'⟩:=x;cbv)|(refine Back.up [] [] ?_ ?_ fun _ _=>?_;rotate_left 2;cbv)|(refine Nl fun _ _ hq=>?_;(try simp only [lenS] at hq);cbv)|(refine Nm fun _ _=>?_;cbv)|(refine Br.t ?_ ?_;(focus first|assumption|lia);cbv)|(refine Br.f ?_ ?_;(focus first|assumption|lia);cbv)|(refine Br.mk (fun _=>?_) (fun _=>?_)<;>cbv)|(refine Need.mk ?_ ?_;rotate_left;cbv)|(refine R0 ?_;cbv))
 all_goals(try subst_vars)
 all_goals(try simp only [O.h,natTo,natPred,emp] at *)
 all_goals(try subst_vars)
 all_goals(repeat' apply And.intro)
 all_goals first
  | exact True.intro
  | exact WkR.refl _
  | lia
  | exact findI_at (k:=k) (by assumption) (by simp_all [hasK]) h2
  | exact findI_none fun j y hj=>h2 j y (by lia)
  | exact srch_step h2 (by assumption) (by simp_all [hasK])
theorem pull_fn (O:Opq) (f:Feed) (a m:Int) (hl:f.changes.length≤1099511627) (hs:f.subs.length≤1099511627) (hd:∀ c∈f.changes,inC c∧c.doc.length≤1099511627):Fn prog 138 [.agg (f.enc O),.int .i64 a,.int .i64 m] [] [.sl false 0 false 4 (O.o (Chs.enc O) (O.o pullR f a m)),.int .i64 (O.o pullE f a m)] []:=by
  have hl1:=Chs.len O f.changes
  have hl2:=Subs.len O f.subs
  have hE:O.o feedErr f=0 ↔ mayF f=true:=by rw[O.h,feedErr_zero]
  have hdc:∀ c∈f.changes,inC c∧c.doc.length≤1099511627776:=fun c hc=>⟨(hd c hc).1,by have:=(hd c hc).2;omega⟩
  have hpl:(pullF f a m).length≤f.changes.length:=by simp [pullF];omega
  have hpd:∀ c∈pullF f a m,c.doc.length≤1099511627:=fun c hc=>(hd c (List.mem_of_mem_drop (List.mem_of_mem_take hc))).2
  have hh:mayF f=true→0≤f.base∧f.base≤f.total∧f.total≤2147483647∧f.total-f.base=f.changes.length:=fun h=>by
    obtain⟨q1,q2,q3,q4,_⟩:=(mayF_iff.1 h).1
    exact⟨q1,q2,q3,q4⟩
  clear hd
  refine go (fn:=Proofs.Tryz.f138) (n:=47) (rv:=[ResultVar.tmp 6,ResultVar.tmp 7]) rfl (by decide) rfl (by decide +kernel) rfl rfl (by simp) fun F L C=>?_
  cbv
  (repeat' first|(refine Na ?_ fun _ _=>?_;(focus lia);cbv)|(refine CallThen.mk _ _ (C.fn (fcheck_fn O f (by lia) (by lia) hdc)) ?_;cbv)|(refine Nl fun _ _ hq=>?_;(try simp only [lenS] at hq);cbv)|(refine Nm fun _ _=>?_;cbv)|(refine Br.t ?_ ?_;(focus first|assumption|lia);cbv)|(refine Br.f ?_ ?_;(focus first|assumption|lia);cbv)|(refine Br.mk (fun _=>?_) (fun _=>?_)<;>cbv)|(refine Need.mk ?_ ?_;rotate_left;cbv)|(refine R0 ?_;cbv))
  all_goals clear hdc
  all_goals try(clear hpd hpl;(repeat' apply And.intro)<;>grind;done)
  all_goals try first
    | (have hx : ¬ (mayF f = true ∧ 1 ≤ m ∧ m ≤ 16 ∧ 0 ≤ a ∧ a ≤ f.total) := by (clear hpd hpl; grind)
       obtain⟨x1,x2⟩:=pullE_bad hx
       simp only [O.h];exact⟨by rw[x2];rfl,x1,trivial⟩)
    | (have hx : mayF f = true ∧ 1 ≤ m ∧ m ≤ 16 ∧ 0 ≤ a ∧ a ≤ f.total := by (clear hpd hpl; grind)
       obtain⟨x1,x2⟩:=pullE_old hx (by assumption)
       simp only [O.h];exact⟨by rw[x2];rfl,x1,trivial⟩)
  have hx:mayF f=true∧1≤m∧m≤16∧0≤a∧a≤f.total:=by(clear hpd hpl;grind)
  obtain⟨x1,x2⟩:=pullE_ok hx (by assumption)
  rename_i n1 e1 R1 eR1 hq1 n2 e2 n3 e3 R2 eR2
  have e5:R1=(O.o (Chs.enc O) f.changes).drop (a-f.base).toNat:=by rw[eR1,e1]
  have eR:R2=O.o (Chs.enc O) (pullF f a m):=by
    rw[pullF_enc,eR2,show Int.toNat 0=0 from rfl,List.drop_zero,Nat.sub_zero,e3,← e5]
    split
    · rw[List.take_of_length_le (by lia),List.take_of_length_le (by lia)]
    · rfl
  subst eR
  clear e5
  obtain⟨w,hw⟩:∃ w,w=pullF f a m:=⟨_,rfl⟩
  rw[← hw] at hpl hpd x2 ⊢
  (repeat' first|(refine Na ?_ fun _ _=>?_;(focus lia);cbv)|(refine CallThen.mk _ _ (C.fn (changes_fn O w (by lia) hpd)) ?_;cbv)|(refine Nl fun _ _ hq=>?_;(try simp only [lenS] at hq);cbv)|(refine Nm fun _ _=>?_;cbv)|(refine Br.t ?_ ?_;(focus first|assumption|lia);cbv)|(refine Br.f ?_ ?_;(focus first|assumption|lia);cbv)|(refine Br.mk (fun _=>?_) (fun _=>?_)<;>cbv)|(refine Need.mk ?_ ?_;rotate_left;cbv)|(refine R0 ?_;cbv))
  simp only [O.h]
  exact⟨.of_eq (by rw[x2]),x1,trivial⟩
theorem read_fn (O:Opq) (f:Feed) (n:ByteArray) (m:Int) (hl:f.changes.length≤1099511627) (hs:f.subs.length≤1099511627) (hd:∀ c∈f.changes,inC c∧c.doc.length≤1099511627):Fn prog 137 [.agg (f.enc O),.str n,.int .i64 m] [] [.sl false 0 false 4 (O.o (Chs.enc O) (O.o readR f n m)),.int .i64 (O.o readAt f n m),.int .i64 (O.o readE f n m)] []:=by
 have hl1:=Chs.len O f.changes
 have hl2:=Subs.len O f.subs
 have hE:O.o feedErr f=0 ↔ mayF f=true:=by rw[O.h,feedErr_zero]
 have hdc:∀ c∈f.changes,inC c∧c.doc.length≤1099511627776:=fun c hc=>⟨(hd c hc).1,by have:=(hd c hc).2;omega⟩
 by_cases hm:mayF f=true
 ·have hE0:O.o feedErr f=0:=hE.2 hm
  have hso:=mayF_subs hm
  cases hg:getK Sub.name f.subs n with
  | false =>
   have hg2:O.o (getK Sub.name) f.subs n=false:=by rw[O.h];exact hg
   obtain⟨x1,x2,x3⟩:=readE_none (m:=m) hm hg
   clear hd
   refine go (fn:=Proofs.Tryz.f137) (n:=46) (rv:=[ResultVar.tmp 6,ResultVar.tmp 7,ResultVar.tmp 8]) rfl (by decide) rfl (by decide +kernel) rfl rfl (by simp) fun F L C=>?_
   cbv
   (repeat' first|(refine Na ?_ fun _ _=>?_;(focus lia);cbv)|(refine CallThen.mk _ _ (C.fn (fcheck_fn O f (by lia) (by lia) hdc)) ?_;cbv)|(refine CallThen.bool2F (C.fn (atS_fn O false f n (by lia) hso)) (by assumption) ?_;cbv)|(refine Nl fun _ _ hq=>?_;(try simp only [lenS] at hq);cbv)|(refine Nm fun _ _=>?_;cbv)|(refine Br.t ?_ ?_;(focus first|assumption|lia);cbv)|(refine Br.f ?_ ?_;(focus first|assumption|lia);cbv)|(refine Br.mk (fun _=>?_) (fun _=>?_)<;>cbv)|(refine Need.mk ?_ ?_;rotate_left;cbv)|(refine R0 ?_;cbv))
   all_goals try lia
   all_goals simp only [O.h];exact⟨by rw[x2];rfl,x3,x1,trivial⟩
  | true =>
   have hg2:O.o (getK Sub.name) f.subs n=true:=by rw[O.h];exact hg
   obtain⟨x1,x2,x3⟩:=readE_at (m:=m) hm hg
   obtain⟨s,hs1,hs2⟩:=posK_there hso hg
   have hsp:=subPos_at hs1
   have hpz:O.o (posKZ Sub.name) f.subs n=posK Sub.name f.subs n:=by rw[O.h];rfl
   have hpl:posK Sub.name f.subs n<f.subs.length:=(List.getElem?_eq_some_iff.1 hs1).1
   obtain⟨k,hk⟩:∃ k,k=posK Sub.name f.subs n:=⟨_,rfl⟩
   rw[← hk] at hs1 hpz hpl
   refine go (fn:=Proofs.Tryz.f137) (n:=46) (rv:=[ResultVar.tmp 6,ResultVar.tmp 7,ResultVar.tmp 8]) rfl (by decide) rfl (by decide +kernel) rfl rfl (by simp) fun F L C=>?_
   cbv
   (repeat' first|(refine Na ?_ fun _ _=>?_;(focus lia);cbv)|(refine CallThen.mk _ _ (C.fn (fcheck_fn O f (by lia) (by lia) hdc)) ?_;cbv)|(refine CallThen.bool2T (C.fn (atS_fn O false f n (by lia) hso)) (by assumption) ?_;cbv)|(refine Ex.at (Sub.enc s) ?_ ?_;rotate_left;cbv)|(refine CallThen.mk _ _ (C.fn (pull_fn O f s.pos m hl hs hd)) ?_;cbv)|(refine Nl fun _ _ hq=>?_;(try simp only [lenS] at hq);cbv)|(refine Nm fun _ _=>?_;cbv)|(refine Br.t ?_ ?_;(focus first|assumption|lia);cbv)|(refine Br.f ?_ ?_;(focus first|assumption|lia);cbv)|(refine Br.mk (fun _=>?_) (fun _=>?_)<;>cbv)|(refine Need.mk ?_ ?_;rotate_left;cbv)|(refine R0 ?_;cbv))
   all_goals try first
    | (refine⟨by lia,?_⟩;rw[show(O.1 (posKZ Sub.name) f.4 n).toNat=k from by(show(O.o (posKZ Sub.name) f.subs n).toNat=k);rw[hpz];rfl];simp only [O.h];rw[Subs.enc,List.getElem?_map,hs1];rfl)
   ·rename_i h
    simp only [O.h] at h ⊢
    rw[hsp] at x1 x2 x3
    rw[h] at x1 x3
    exact⟨.of_eq (by rw[x2]),by rw[x3];rfl,x1,trivial⟩
   ·rename_i h
    simp only [O.h] at h ⊢
    rw[hsp] at x1 x2 x3
    rw[if_neg h] at x3
    exact⟨by rw[x2,pullR,if_neg h];rfl,x3,x1,trivial⟩
 ·have hE0:O.o feedErr f=1:=by rw[O.h];exact feedErr_one (by simpa using hm)
  obtain⟨x1,x2,x3⟩:=readE_bad (n:=n) (m:=m) (by simpa using hm)
  refine go (fn:=Proofs.Tryz.f137) (n:=46) (rv:=[ResultVar.tmp 6,ResultVar.tmp 7,ResultVar.tmp 8]) rfl (by decide) rfl (by decide +kernel) rfl rfl (by simp) fun F L C=>?_
  cbv
  (repeat' first|(refine Na ?_ fun _ _=>?_;(focus lia);cbv)|(refine CallThen.mk _ _ (C.fn (fcheck_fn O f (by lia) (by lia) hdc)) ?_;cbv)|(refine Nl fun _ _ hq=>?_;(try simp only [lenS] at hq);cbv)|(refine Nm fun _ _=>?_;cbv)|(refine Br.t ?_ ?_;(focus first|assumption|lia);cbv)|(refine Br.f ?_ ?_;(focus first|assumption|lia);cbv)|(refine Br.mk (fun _=>?_) (fun _=>?_)<;>cbv)|(refine Need.mk ?_ ?_;rotate_left;cbv)|(refine R0 ?_;cbv))
  all_goals try lia
  all_goals simp only [O.h] at hE0 ⊢;exact⟨by rw[x2];rfl,x3,by rw[x1,hE0],trivial⟩
def inF (f:Feed):Prop:=f.changes.length≤1099511627∧f.subs.length≤1099511627∧∀ c∈f.changes,inC c∧c.doc.length≤1099511627
theorem inF_c {f:Feed} (h:inF f):∀ c∈f.changes,inC c∧c.doc.length≤1099511627776:=fun c hc=>⟨(h.2.2 c hc).1,by have:=(h.2.2 c hc).2;omega⟩
theorem inF_d {f:Feed} (h:inF f):∀ c∈f.changes,c.doc.length≤1099511627:=fun c hc=>(h.2.2 c hc).2
theorem retF {O:Opq} {g f:Feed} {Q:List (List PV)→Prop} (h:g=f) (hq:∀ rs,Q rs):g.base=f.base∧g.total=f.total∧WkR (O.o (Chs.enc O) g.changes) (O.o (Chs.enc O) f.changes)∧Named (List (List PV)) (fun _=>O.o Subs.enc f.subs) fun rs=>WkR (O.o Subs.enc g.subs) rs∧Q rs:=by
 subst h
 exact⟨rfl,rfl,.refl _,Named.mk fun rs e=>⟨.of_eq e.symm,hq rs⟩⟩
set_option maxHeartbeats 4000000 in
theorem open_fn (O:Opq) (f:Feed) (n:ByteArray) (a:Int) (hi:inF f):Fn prog 139 [.agg (f.enc O),.str n,.int .i64 a] [] [.agg (Feed.enc O (O.o openR f n a)),.int .i64 (O.o openE f n a)] []:=by
  have hl:=hi.1
  have hs:=hi.2.1
  have hl1:=Chs.len O f.changes
  have hl2:=Subs.len O f.subs
  have hE:O.o feedErr f=0 ↔ mayF f=true:=by rw[O.h,feedErr_zero]
  by_cases hm:mayF f=true
  · have hE0:O.o feedErr f=0:=hE.2 hm
    have hso:=mayF_subs hm
    have hh:=(mayF_iff.1 hm).1.1
    have hp0:O.o (posKZ Sub.name) f.subs n=posK Sub.name f.subs n:=by rw[O.h];rfl
    have hp1:0≤O.o (posKZ Sub.name) f.subs n:=by rw[hp0];omega
    have hp2:O.o (posKZ Sub.name) f.subs n≤f.subs.length:=by rw[hp0];have:=posK_le (κ:=Sub.name) f.subs n;omega
    have hk1:O.o isKey n=isKey n:=by rw[O.h]
    have hg1:O.o (getK Sub.name) f.subs n=getK Sub.name f.subs n:=by rw[O.h]
    by_cases hok:(isKey n=true∧0≤a∧a≤f.total)∧getK Sub.name f.subs n=false∧f.subs.length≠8∧¬ a<f.base
    · obtain⟨k1,k2,k3,k4⟩:=hok
      obtain⟨x1,x2⟩:=openE_ok hm k1 k2 k3 k4
      rw[k1.1] at hk1
      rw[k2] at hg1
      refine go (fn:=Proofs.Tryz.f139) (n:=62) (rv:=[ResultVar.cell 6 62,ResultVar.tmp 7]) rfl (by decide) rfl (by decide +kernel) rfl rfl (by simp) fun F L C=>?_
      cbv
      (repeat' first|(refine Na ?_ fun _ _=>?_;(focus lia);cbv)|(refine CallThen.mk _ _ (C.fn (fcheck_fn O f (by lia) (by lia) (inF_c hi))) ?_;cbv)|(refine CallThen.mk _ _ (C.fn (own_fn O f hl hs (inF_d hi))) ?_;cbv)|(refine CallThen.bool2F (C.fn (atS_fn O true f n (by lia) hso)) (by assumption) ?_;cbv)|(refine CallThen.boolT (C.fn (key_fn O n)) ?_ ?_;(focus assumption);cbv)|(refine CallThen.boolF (C.fn (key_fn O n)) ?_ ?_;(focus assumption);cbv)|(refine CallThen.bool (C.fn (key_fn O n)) (fun _=>?_) (fun _=>?_)<;>cbv)|(refine CallThen.mk _ _ (C.fn (insertS_fn O f.subs _ ⟨_,_⟩ _ rfl hs hp1 hp2)) ?_;cbv)|(refine Nl fun _ _ hq=>?_;(try simp only [lenS] at hq);cbv)|(refine Nm fun _ _=>?_;cbv)|(refine Br.t ?_ ?_;(focus first|assumption|lia);cbv)|(refine Br.f ?_ ?_;(focus first|assumption|lia);cbv)|(refine Br.mk (fun _=>?_) (fun _=>?_)<;>cbv)|(refine Need.mk ?_ ?_;rotate_left;cbv)|(refine R0 ?_;cbv))
      all_goals try lia
      simp only [O.h]
      rw[x1,x2]
      exact⟨rfl,rfl,.refl _,.refl _,rfl,trivial⟩
    · have hrt:∀ {e:Int},openE f n a=e∧openR f n a=f→O.o openE f n a=e∧O.o openR f n a=f:=fun h=>by simp only [O.h];exact h
      refine go (fn:=Proofs.Tryz.f139) (n:=62) (rv:=[ResultVar.cell 6 62,ResultVar.tmp 7]) rfl (by decide) rfl (by decide +kernel) rfl rfl (by simp) fun F L C=>?_
      cbv
      (repeat' first|(refine Na ?_ fun _ _=>?_;(focus lia);cbv)|(refine CallThen.mk _ _ (C.fn (fcheck_fn O f (by lia) (by lia) (inF_c hi))) ?_;cbv)|(refine CallThen.mk _ _ (C.fn (own_fn O f hl hs (inF_d hi))) ?_;cbv)|(refine CallThen.bool2 (C.fn (atS_fn O true f n (by lia) hso)) (fun _=>?_) (fun _=>?_)<;>cbv)|(refine CallThen.bool (C.fn (key_fn O n)) (fun _=>?_) (fun _=>?_)<;>cbv)|(refine RetThen.mk [] [1280] ?_;cbv)|(refine Nl fun _ _ hq=>?_;(try simp only [lenS] at hq);cbv)|(refine Nm fun _ _=>?_;cbv)|(refine Br.t ?_ ?_;(focus first|assumption|lia);cbv)|(refine Br.f ?_ ?_;(focus first|assumption|lia);cbv)|(refine Br.mk (fun _=>?_) (fun _=>?_)<;>cbv)|(refine Need.mk ?_ ?_;rotate_left;cbv)|(refine R0 ?_;cbv))
      all_goals first
        | (obtain⟨x1,x2⟩:=hrt (openE_arg hm (by clear hrt;grind));refine retF x2 fun rs=>?_;cbv;exact⟨x1,trivial⟩)
        | (have hk : isKey n = true ∧ 0 ≤ a ∧ a ≤ f.total := by (clear hrt; grind)
           first
             | (obtain⟨x1,x2⟩:=hrt (openE_same hm hk (by clear hrt;grind));refine retF x2 fun rs=>?_;cbv;exact⟨x1,trivial⟩)
             | (obtain⟨x1,x2⟩:=hrt (openE_full hm hk (by clear hrt;grind) (by clear hrt;grind));refine retF x2 fun rs=>?_;cbv;exact⟨x1,trivial⟩)
             | (obtain⟨x1,x2⟩:=hrt (openE_old hm hk (by clear hrt;grind) (by clear hrt;grind) (by clear hrt;grind));refine retF x2 fun rs=>?_;cbv;exact⟨x1,trivial⟩)
             | (exfalso;clear hrt;grind;done)
             | trace_state)
  · have hE0:O.o feedErr f=1:=by rw[O.h];exact feedErr_one (by simpa using hm)
    obtain⟨x1,x2⟩:=openE_bad (n:=n) (a:=a) (by simpa using hm)
    refine go (fn:=Proofs.Tryz.f139) (n:=62) (rv:=[ResultVar.cell 6 62,ResultVar.tmp 7]) rfl (by decide) rfl (by decide +kernel) rfl rfl (by simp) fun F L C=>?_
    cbv
    (repeat' first|(refine Na ?_ fun _ _=>?_;(focus lia);cbv)|(refine CallThen.mk _ _ (C.fn (fcheck_fn O f (by lia) (by lia) (inF_c hi))) ?_;cbv)|(refine Nl fun _ _ hq=>?_;(try simp only [lenS] at hq);cbv)|(refine Nm fun _ _=>?_;cbv)|(refine Br.t ?_ ?_;(focus first|assumption|lia);cbv)|(refine Br.f ?_ ?_;(focus first|assumption|lia);cbv)|(refine Br.mk (fun _=>?_) (fun _=>?_)<;>cbv)|(refine Need.mk ?_ ?_;rotate_left;cbv)|(refine R0 ?_;cbv))
    all_goals try lia
    simp only [O.h] at hE0 ⊢
    rw[x1,x2,hE0]
    exact⟨rfl,rfl,rfl,rfl,rfl,trivial⟩
theorem ack_set {O:Opq} {f:Feed} {n:ByteArray} {a:Int} {k:Nat} {s:Sub} (hk:(posKZ Sub.name f.subs n).toNat=k) (hn:s.name=n):O.o Subs.enc (ackF f n a).subs=(O.o Subs.enc f.subs).set k [.str s.name,.int .i64 a]:=by
 simp only [O.h]
 simp only [ackF,hk,Subs.enc,List.map_set,hn,Sub.enc]
set_option maxHeartbeats 4000000 in
theorem ack_fn (O:Opq) (f:Feed) (n:ByteArray) (a:Int) (hi:inF f):Fn prog 140 [.agg (f.enc O),.str n,.int .i64 a] [] [.agg (Feed.enc O (O.o ackR f n a)),.int .i64 (O.o ackE f n a)] []:=by
 have hl:=hi.1
 have hs:=hi.2.1
 have hl1:=Chs.len O f.changes
 have hl2:=Subs.len O f.subs
 have hE:O.o feedErr f=0 ↔ mayF f=true:=by rw[O.h,feedErr_zero]
 by_cases hm:mayF f=true
 ·have hE0:O.o feedErr f=0:=hE.2 hm
  have hso:=mayF_subs hm
  have hg1:O.o (getK Sub.name) f.subs n=getK Sub.name f.subs n:=by rw[O.h]
  have hrt:∀ {e:Int},ackE f n a=e∧ackR f n a=f→O.o ackE f n a=e∧O.o ackR f n a=f:=fun h=>by simp only [O.h];exact h
  cases hg:getK Sub.name f.subs n with
  | false =>
   rw[hg] at hg1
   obtain⟨x1,x2⟩:=hrt (ackE_none (a:=a) hm hg)
   clear hrt
   refine go (fn:=Proofs.Tryz.f140) (n:=49) (rv:=[ResultVar.cell 6 62,ResultVar.tmp 7]) rfl (by decide) rfl (by decide +kernel) rfl rfl (by simp) fun F L C=>?_
   cbv
   (repeat' first|(refine Na ?_ fun _ _=>?_;(focus lia);cbv)|(refine CallThen.mk _ _ (C.fn (fcheck_fn O f (by lia) (by lia) (inF_c hi))) ?_;cbv)|(refine CallThen.mk _ _ (C.fn (own_fn O f hl hs (inF_d hi))) ?_;cbv)|(refine CallThen.bool2F (C.fn (atS_fn O true f n (by lia) hso)) (by assumption) ?_;cbv)|(refine RetThen.mk [] [1280] ?_;cbv)|(refine Nl fun _ _ hq=>?_;(try simp only [lenS] at hq);cbv)|(refine Nm fun _ _=>?_;cbv)|(refine Br.t ?_ ?_;(focus first|assumption|lia);cbv)|(refine Br.f ?_ ?_;(focus first|assumption|lia);cbv)|(refine Br.mk (fun _=>?_) (fun _=>?_)<;>cbv)|(refine Need.mk ?_ ?_;rotate_left;cbv)|(refine R0 ?_;cbv))
   all_goals try lia
   refine retF x2 fun rs=>?_;cbv;exact⟨x1,trivial⟩
  | true =>
   rw[hg] at hg1
   obtain⟨s,hs1,hs2⟩:=posK_there hso hg
   have hsp:=subPos_at hs1
   have hpz:O.o (posKZ Sub.name) f.subs n=posK Sub.name f.subs n:=by rw[O.h];rfl
   have hpl:posK Sub.name f.subs n<f.subs.length:=(List.getElem?_eq_some_iff.1 hs1).1
   have hst:=fun {s2:Sub} (h:s2.name=n)=>ack_set (O:=O) (f:=f) (n:=n) (a:=a) (k:=posK Sub.name f.subs n) (s:=s2) posKZ_nat h
   obtain⟨k,hk⟩:∃ k,k=posK Sub.name f.subs n:=⟨_,rfl⟩
   rw[← hk] at hs1 hpz hpl hst
   obtain⟨w,hw⟩:∃ w,w=(O.o (posKZ Sub.name) f.subs n):=⟨_,rfl⟩
   have hat:=fun h1=>atS_fn O true f n h1 hso
   rw[← hw] at hpz hat
   refine go (fn:=Proofs.Tryz.f140) (n:=49) (rv:=[ResultVar.cell 6 62,ResultVar.tmp 7]) rfl (by decide) rfl (by decide +kernel) rfl rfl (by simp) fun F L C=>?_
   cbv
   (repeat' first|(refine Na ?_ fun _ _=>?_;(focus lia);cbv)|(refine CallThen.mk _ _ (C.fn (fcheck_fn O f (by lia) (by lia) (inF_c hi))) ?_;cbv)|(refine CallThen.mk _ _ (C.fn (own_fn O f hl hs (inF_d hi))) ?_;cbv)|(refine CallThen.bool2T (C.fn (hat (by lia))) (by assumption) ?_;cbv)|(refine Ex.at (Sub.enc s) ?_ ?_;rotate_left;cbv)|(refine RetThen.mk [] [1280] ?_;cbv)|(refine Nl fun _ _ hq=>?_;(try simp only [lenS] at hq);cbv)|(refine Nm fun _ _=>?_;cbv)|(refine Br.t ?_ ?_;(focus first|assumption|lia);cbv)|(refine Br.f ?_ ?_;(focus first|assumption|lia);cbv)|(refine Br.mk (fun _=>?_) (fun _=>?_)<;>cbv)|(refine Need.mk ?_ ?_;rotate_left;cbv)|(refine R0 ?_;cbv))
   all_goals try(clear hst hrt hs1 hat;lia)
   ·obtain⟨x1,x2⟩:=hrt (ackE_arg hm hg (by assumption))
    refine retF x2 fun rs=>?_;cbv;exact⟨x1,trivial⟩
   ·obtain⟨x1,x2⟩:=hrt (ackE_old hm hg (by assumption) (by rw[hsp];assumption))
    refine retF x2 fun rs=>?_;cbv;exact⟨x1,trivial⟩
   ·rename_i n1 e1 e2 n2 e3 R eR
    obtain⟨x1,x2⟩:=ackE_ok (a:=a) hm hg (by assumption) (by rw[hsp];exact e2)
    have x1':O.o ackE f n a=0:=by rw[O.h];exact x1
    have x2':O.o ackR f n a=ackF f n a:=by rw[O.h];exact x2
    have eR2:R=O.o Subs.enc (ackF f n a).subs:=by
     rw[hst hs2,eR,e3,hpz];rfl
    refine⟨?_,?_,?_,Named.mk fun rs e=>⟨?_,?_⟩⟩
    ·show(O.o ackR f n a).base=_;rw[x2'];rfl
    ·show(O.o ackR f n a).total=_;rw[x2'];rfl
    ·refine .of_eq ?_;show O.o (Chs.enc O) (O.o ackR f n a).changes=_;rw[x2'];rfl
    ·refine .of_eq ?_;show O.o Subs.enc (O.o ackR f n a).subs=_;rw[x2',e,eR2]
    ·cbv;exact⟨x1',trivial⟩
   all_goals
    rename_i n2 e3
    refine⟨by clear hst hrt hs1 hat;lia,?_⟩
    simp only [O.h]
    rw[show(Int.ofNat n2).toNat=k by rw[e3,hpz];rfl,Subs.enc,List.getElem?_map,hs1]
    rfl
 ·have hE0:O.o feedErr f=1:=by rw[O.h];exact feedErr_one (by simpa using hm)
  obtain⟨x1,x2⟩:=ackE_bad (n:=n) (a:=a) (by simpa using hm)
  refine go (fn:=Proofs.Tryz.f140) (n:=49) (rv:=[ResultVar.cell 6 62,ResultVar.tmp 7]) rfl (by decide) rfl (by decide +kernel) rfl rfl (by simp) fun F L C=>?_
  cbv
  (repeat' first|(refine Na ?_ fun _ _=>?_;(focus lia);cbv)|(refine CallThen.mk _ _ (C.fn (fcheck_fn O f (by lia) (by lia) (inF_c hi))) ?_;cbv)|(refine Nl fun _ _ hq=>?_;(try simp only [lenS] at hq);cbv)|(refine Nm fun _ _=>?_;cbv)|(refine Br.t ?_ ?_;(focus first|assumption|lia);cbv)|(refine Br.f ?_ ?_;(focus first|assumption|lia);cbv)|(refine Br.mk (fun _=>?_) (fun _=>?_)<;>cbv)|(refine Need.mk ?_ ?_;rotate_left;cbv)|(refine R0 ?_;cbv))
  all_goals try lia
  simp only [O.h] at hE0 ⊢
  rw[x1,x2,hE0]
  exact⟨rfl,rfl,rfl,rfl,rfl,trivial⟩
end Go.Sym
