/- What comes of what is asked of a feed. -/
import Derived.Test.YthaaoongjcmleaaGreatDoorK3
import Derived.Test.YthaaoongjcmleaaGreatDoorK11
set_option linter.all false
set_option linter.unusedVariables false
set_option linter.unusedSimpArgs false
namespace Go.Sym
open Go Go.Proofs.Tryz
set_option maxRecDepth 100000
theorem pull_fn (O:Opq) (f:Feed) (a m:Int) (hl:f.changes.length≤1099511627) (hs:f.subs.length≤1099511627) (hd:∀ c∈f.changes,inC c∧c.doc.length≤1099511627):Fn prog 94 [.agg (f.enc O),.int .i64 a,.int .i64 m] [] [.sl false 0 false 4 (O.o (Chs.enc O) (O.o pullR f a m)),.int .i64 (O.o pullE f a m)] []:=by
  have hl1:=Chs.len O f.changes
  have hl2:=Subs.len O f.subs
  have hE:O.o feedErr f=0 ↔ mayF f=true:=by rw[O.h,feedErr_zero]
  have hdc:∀ c∈f.changes,inC c∧c.doc.length≤1099511627776:=fun c hc=>⟨(hd c hc).1,by have:=(hd c hc).2;omega⟩
  have hpl:(pullF f a m).length≤f.changes.length:=by simp [pullF];omega
  have hpd:∀ c∈pullF f a m,c.doc.length≤1099511627:=fun c hc=>(hd c (List.mem_of_mem_drop (List.mem_of_mem_take hc))).2
  have hh:mayF f=true→0≤f.base∧f.base≤f.total∧f.total≤2147483647∧f.total-f.base=f.changes.length:=fun h=>by
    obtain⟨q1,q2,q3,q4,_⟩:=(mayF_iff.1 h).1
    exact⟨q1,q2,q3,q4⟩
  clear hd
  refine go (fn:=Proofs.Tryz.f94) (n:=47) (rv:=[ResultVar.tmp 6,ResultVar.tmp 7]) rfl (by decide) rfl (by decide +kernel) rfl rfl (by simp) fun F L C=>?_
  cbv
  (repeat' first|(refine Na ?_ fun _ _=>?_;(focus lia);cbv)|(refine CallThen.mk _ _ (C.fn (fcheck_fn O f (by lia) (by lia) hdc)) ?_;cbv)|(refine Nl fun _ _ hq=>?_;(try simp only [lenS] at hq);cbv)|(refine Nm fun _ _=>?_;cbv)|(refine Br.t ?_ ?_;(focus first|assumption|lia);cbv)|(refine Br.f ?_ ?_;(focus first|assumption|lia);cbv)|(refine Br.mk (fun _=>?_) (fun _=>?_)<;>cbv)|(refine Need.mk ?_ ?_;rotate_left;cbv)|(refine R0 ?_;cbv))
  all_goals clear hdc
  all_goals try(clear hpd hpl;(repeat' apply And.intro)<;>grind;done)
  all_goals try first
    | (have hx : ¬ (mayF f = true ∧ 1 ≤ m ∧ m ≤ 16 ∧ 0 ≤ a ∧ a ≤ f.total) := by (clear hpd hpl; grind)
       obtain⟨x1,x2⟩:=pullE_bad hx
       simp only [O.h];exact⟨by rw[x2];rfl,x1,trivial⟩)
    | (have hx : mayF f = true ∧ 1 ≤ m ∧ m ≤ 16 ∧ 0 ≤ a ∧ a ≤ f.total := by (clear hpd hpl; grind)
       obtain⟨x1,x2⟩:=pullE_old hx (by assumption)
       simp only [O.h];exact⟨by rw[x2];rfl,x1,trivial⟩)
  have hx:mayF f=true∧1≤m∧m≤16∧0≤a∧a≤f.total:=by(clear hpd hpl;grind)
  obtain⟨x1,x2⟩:=pullE_ok hx (by assumption)
  rename_i n1 e1 R1 eR1 hq1 n2 e2 n3 e3 R2 eR2
  have e5:R1=(O.o (Chs.enc O) f.changes).drop (a-f.base).toNat:=by rw[eR1,e1]
  have eR:R2=O.o (Chs.enc O) (pullF f a m):=by
    rw[pullF_enc,eR2,show Int.toNat 0=0 from rfl,List.drop_zero,Nat.sub_zero,e3,← e5]
    split
    · rw[List.take_of_length_le (by lia),List.take_of_length_le (by lia)]
    · rfl
  subst eR
  clear e5
  obtain⟨w,hw⟩:∃ w,w=pullF f a m:=⟨_,rfl⟩
  rw[← hw] at hpl hpd x2 ⊢
  (repeat' first|(refine Na ?_ fun _ _=>?_;(focus lia);cbv)|(refine CallThen.mk _ _ (C.fn (changes_fn O w (by lia) hpd)) ?_;cbv)|(refine Nl fun _ _ hq=>?_;(try simp only [lenS] at hq);cbv)|(refine Nm fun _ _=>?_;cbv)|(refine Br.t ?_ ?_;(focus first|assumption|lia);cbv)|(refine Br.f ?_ ?_;(focus first|assumption|lia);cbv)|(refine Br.mk (fun _=>?_) (fun _=>?_)<;>cbv)|(refine Need.mk ?_ ?_;rotate_left;cbv)|(refine R0 ?_;cbv))
  simp only [O.h]
  exact⟨.of_eq (by rw[x2]),x1,trivial⟩
theorem read_fn (O:Opq) (f:Feed) (n:ByteArray) (m:Int) (hl:f.changes.length≤1099511627) (hs:f.subs.length≤1099511627) (hd:∀ c∈f.changes,inC c∧c.doc.length≤1099511627):Fn prog 93 [.agg (f.enc O),.str n,.int .i64 m] [] [.sl false 0 false 4 (O.o (Chs.enc O) (O.o readR f n m)),.int .i64 (O.o readAt f n m),.int .i64 (O.o readE f n m)] []:=by
 have hl1:=Chs.len O f.changes
 have hl2:=Subs.len O f.subs
 have hE:O.o feedErr f=0 ↔ mayF f=true:=by rw[O.h,feedErr_zero]
 have hdc:∀ c∈f.changes,inC c∧c.doc.length≤1099511627776:=fun c hc=>⟨(hd c hc).1,by have:=(hd c hc).2;omega⟩
 by_cases hm:mayF f=true
 ·have hE0:O.o feedErr f=0:=hE.2 hm
  have hso:=mayF_subs hm
  cases hg:getK Sub.name f.subs n with
  | false =>
   have hg2:O.o (getK Sub.name) f.subs n=false:=by rw[O.h];exact hg
   obtain⟨x1,x2,x3⟩:=readE_none (m:=m) hm hg
   clear hd
   refine go (fn:=Proofs.Tryz.f93) (n:=46) (rv:=[ResultVar.tmp 6,ResultVar.tmp 7,ResultVar.tmp 8]) rfl (by decide) rfl (by decide +kernel) rfl rfl (by simp) fun F L C=>?_
   cbv
   (repeat' first|(refine Na ?_ fun _ _=>?_;(focus lia);cbv)|(refine CallThen.mk _ _ (C.fn (fcheck_fn O f (by lia) (by lia) hdc)) ?_;cbv)|(refine CallThen.bool2F (C.fn (atS_fn O false f n (by lia) hso)) (by assumption) ?_;cbv)|(refine Nl fun _ _ hq=>?_;(try simp only [lenS] at hq);cbv)|(refine Nm fun _ _=>?_;cbv)|(refine Br.t ?_ ?_;(focus first|assumption|lia);cbv)|(refine Br.f ?_ ?_;(focus first|assumption|lia);cbv)|(refine Br.mk (fun _=>?_) (fun _=>?_)<;>cbv)|(refine Need.mk ?_ ?_;rotate_left;cbv)|(refine R0 ?_;cbv))
   all_goals try lia
   all_goals simp only [O.h];exact⟨by rw[x2];rfl,x3,x1,trivial⟩
  | true =>
   have hg2:O.o (getK Sub.name) f.subs n=true:=by rw[O.h];exact hg
   obtain⟨x1,x2,x3⟩:=readE_at (m:=m) hm hg
   obtain⟨s,hs1,hs2⟩:=posK_there hso hg
   have hsp:=subPos_at hs1
   have hpz:O.o (posKZ Sub.name) f.subs n=posK Sub.name f.subs n:=by rw[O.h];rfl
   have hpl:posK Sub.name f.subs n<f.subs.length:=(List.getElem?_eq_some_iff.1 hs1).1
   obtain⟨k,hk⟩:∃ k,k=posK Sub.name f.subs n:=⟨_,rfl⟩
   rw[← hk] at hs1 hpz hpl
   refine go (fn:=Proofs.Tryz.f93) (n:=46) (rv:=[ResultVar.tmp 6,ResultVar.tmp 7,ResultVar.tmp 8]) rfl (by decide) rfl (by decide +kernel) rfl rfl (by simp) fun F L C=>?_
   cbv
   (repeat' first|(refine Na ?_ fun _ _=>?_;(focus lia);cbv)|(refine CallThen.mk _ _ (C.fn (fcheck_fn O f (by lia) (by lia) hdc)) ?_;cbv)|(refine CallThen.bool2T (C.fn (atS_fn O false f n (by lia) hso)) (by assumption) ?_;cbv)|(refine Ex.at (Sub.enc s) ?_ ?_;rotate_left;cbv)|(refine CallThen.mk _ _ (C.fn (pull_fn O f s.pos m hl hs hd)) ?_;cbv)|(refine Nl fun _ _ hq=>?_;(try simp only [lenS] at hq);cbv)|(refine Nm fun _ _=>?_;cbv)|(refine Br.t ?_ ?_;(focus first|assumption|lia);cbv)|(refine Br.f ?_ ?_;(focus first|assumption|lia);cbv)|(refine Br.mk (fun _=>?_) (fun _=>?_)<;>cbv)|(refine Need.mk ?_ ?_;rotate_left;cbv)|(refine R0 ?_;cbv))
   all_goals try first
    | (refine⟨by lia,?_⟩;rw[show(O.1 (posKZ Sub.name) f.4 n).toNat=k from by(show(O.o (posKZ Sub.name) f.subs n).toNat=k);rw[hpz];rfl];simp only [O.h];rw[Subs.enc,List.getElem?_map,hs1];rfl)
   ·rename_i h
    simp only [O.h] at h ⊢
    rw[hsp] at x1 x2 x3
    rw[h] at x1 x3
    exact⟨.of_eq (by rw[x2]),by rw[x3];rfl,x1,trivial⟩
   ·rename_i h
    simp only [O.h] at h ⊢
    rw[hsp] at x1 x2 x3
    rw[if_neg h] at x3
    exact⟨by rw[x2,pullR,if_neg h];rfl,x3,x1,trivial⟩
 ·have hE0:O.o feedErr f=1:=by rw[O.h];exact feedErr_one (by simpa using hm)
  obtain⟨x1,x2,x3⟩:=readE_bad (n:=n) (m:=m) (by simpa using hm)
  refine go (fn:=Proofs.Tryz.f93) (n:=46) (rv:=[ResultVar.tmp 6,ResultVar.tmp 7,ResultVar.tmp 8]) rfl (by decide) rfl (by decide +kernel) rfl rfl (by simp) fun F L C=>?_
  cbv
  (repeat' first|(refine Na ?_ fun _ _=>?_;(focus lia);cbv)|(refine CallThen.mk _ _ (C.fn (fcheck_fn O f (by lia) (by lia) hdc)) ?_;cbv)|(refine Nl fun _ _ hq=>?_;(try simp only [lenS] at hq);cbv)|(refine Nm fun _ _=>?_;cbv)|(refine Br.t ?_ ?_;(focus first|assumption|lia);cbv)|(refine Br.f ?_ ?_;(focus first|assumption|lia);cbv)|(refine Br.mk (fun _=>?_) (fun _=>?_)<;>cbv)|(refine Need.mk ?_ ?_;rotate_left;cbv)|(refine R0 ?_;cbv))
  all_goals try lia
  all_goals simp only [O.h] at hE0 ⊢;exact⟨by rw[x2];rfl,x3,by rw[x1,hE0],trivial⟩
end Go.Sym
