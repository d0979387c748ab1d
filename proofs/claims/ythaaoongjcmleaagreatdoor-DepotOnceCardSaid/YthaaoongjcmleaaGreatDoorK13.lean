/- Changes follow; a subscription is opened. -/
import Derived.Test.YthaaoongjcmleaaGreatDoorK3
import Derived.Test.YthaaoongjcmleaaGreatDoorK11
set_option linter.all false
set_option linter.unusedVariables false
set_option linter.unusedSimpArgs false
namespace Go.Sym
open Go Go.Proofs.Tryz
set_option maxRecDepth 100000
def inF (f:Feed):Prop:=f.changes.length≤1099511627∧f.subs.length≤1099511627∧∀ c∈f.changes,inC c∧c.doc.length≤1099511627
theorem inF_c {f:Feed} (h:inF f):∀ c∈f.changes,inC c∧c.doc.length≤1099511627776:=fun c hc=>⟨(h.2.2 c hc).1,by have:=(h.2.2 c hc).2;omega⟩
theorem inF_d {f:Feed} (h:inF f):∀ c∈f.changes,c.doc.length≤1099511627:=fun c hc=>(h.2.2 c hc).2
theorem retF {O:Opq} {g f:Feed} {Q:List (List PV)→Prop} (h:g=f) (hq:∀ rs,Q rs):g.base=f.base∧g.total=f.total∧WkR (O.o (Chs.enc O) g.changes) (O.o (Chs.enc O) f.changes)∧Named (List (List PV)) (fun _=>O.o Subs.enc f.subs) fun rs=>WkR (O.o Subs.enc g.subs) rs∧Q rs:=by
 subst h
 exact⟨rfl,rfl,.refl _,Named.mk fun rs e=>⟨.of_eq e.symm,hq rs⟩⟩
set_option maxHeartbeats 4000000 in
theorem open_fn (O:Opq) (f:Feed) (n:ByteArray) (a:Int) (hi:inF f):Fn prog 95 [.agg (f.enc O),.str n,.int .i64 a] [] [.agg (Feed.enc O (O.o openR f n a)),.int .i64 (O.o openE f n a)] []:=by
  have hl:=hi.1
  have hs:=hi.2.1
  have hl1:=Chs.len O f.changes
  have hl2:=Subs.len O f.subs
  have hE:O.o feedErr f=0 ↔ mayF f=true:=by rw[O.h,feedErr_zero]
  by_cases hm:mayF f=true
  · have hE0:O.o feedErr f=0:=hE.2 hm
    have hso:=mayF_subs hm
    have hh:=(mayF_iff.1 hm).1.1
    have hp0:O.o (posKZ Sub.name) f.subs n=posK Sub.name f.subs n:=by rw[O.h];rfl
    have hp1:0≤O.o (posKZ Sub.name) f.subs n:=by rw[hp0];omega
    have hp2:O.o (posKZ Sub.name) f.subs n≤f.subs.length:=by rw[hp0];have:=posK_le (κ:=Sub.name) f.subs n;omega
    have hk1:O.o isKey n=isKey n:=by rw[O.h]
    have hg1:O.o (getK Sub.name) f.subs n=getK Sub.name f.subs n:=by rw[O.h]
    by_cases hok:(isKey n=true∧0≤a∧a≤f.total)∧getK Sub.name f.subs n=false∧f.subs.length≠8∧¬ a<f.base
    · obtain⟨k1,k2,k3,k4⟩:=hok
      obtain⟨x1,x2⟩:=openE_ok hm k1 k2 k3 k4
      rw[k1.1] at hk1
      rw[k2] at hg1
      refine go (fn:=Proofs.Tryz.f95) (n:=62) (rv:=[ResultVar.cell 6 44,ResultVar.tmp 7]) rfl (by decide) rfl (by decide +kernel) rfl rfl (by simp) fun F L C=>?_
      cbv
      (repeat' first|(refine Na ?_ fun _ _=>?_;(focus lia);cbv)|(refine CallThen.mk _ _ (C.fn (fcheck_fn O f (by lia) (by lia) (inF_c hi))) ?_;cbv)|(refine CallThen.mk _ _ (C.fn (own_fn O f hl hs (inF_d hi))) ?_;cbv)|(refine CallThen.bool2F (C.fn (atS_fn O true f n (by lia) hso)) (by assumption) ?_;cbv)|(refine CallThen.boolT (C.fn (key_fn O n)) ?_ ?_;(focus assumption);cbv)|(refine CallThen.boolF (C.fn (key_fn O n)) ?_ ?_;(focus assumption);cbv)|(refine CallThen.bool (C.fn (key_fn O n)) (fun _=>?_) (fun _=>?_)<;>cbv)|(refine CallThen.mk _ _ (C.fn (insertS_fn O f.subs _ ⟨_,_⟩ _ rfl hs hp1 hp2)) ?_;cbv)|(refine Nl fun _ _ hq=>?_;(try simp only [lenS] at hq);cbv)|(refine Nm fun _ _=>?_;cbv)|(refine Br.t ?_ ?_;(focus first|assumption|lia);cbv)|(refine Br.f ?_ ?_;(focus first|assumption|lia);cbv)|(refine Br.mk (fun _=>?_) (fun _=>?_)<;>cbv)|(refine Need.mk ?_ ?_;rotate_left;cbv)|(refine R0 ?_;cbv))
      all_goals try lia
      simp only [O.h]
      rw[x1,x2]
      exact⟨rfl,rfl,.refl _,.refl _,rfl,trivial⟩
    · have hrt:∀ {e:Int},openE f n a=e∧openR f n a=f→O.o openE f n a=e∧O.o openR f n a=f:=fun h=>by simp only [O.h];exact h
      refine go (fn:=Proofs.Tryz.f95) (n:=62) (rv:=[ResultVar.cell 6 44,ResultVar.tmp 7]) rfl (by decide) rfl (by decide +kernel) rfl rfl (by simp) fun F L C=>?_
      cbv
      (repeat' first|(refine Na ?_ fun _ _=>?_;(focus lia);cbv)|(refine CallThen.mk _ _ (C.fn (fcheck_fn O f (by lia) (by lia) (inF_c hi))) ?_;cbv)|(refine CallThen.mk _ _ (C.fn (own_fn O f hl hs (inF_d hi))) ?_;cbv)|(refine CallThen.bool2 (C.fn (atS_fn O true f n (by lia) hso)) (fun _=>?_) (fun _=>?_)<;>cbv)|(refine CallThen.bool (C.fn (key_fn O n)) (fun _=>?_) (fun _=>?_)<;>cbv)|(refine RetThen.mk [] [1280] ?_;cbv)|(refine Nl fun _ _ hq=>?_;(try simp only [lenS] at hq);cbv)|(refine Nm fun _ _=>?_;cbv)|(refine Br.t ?_ ?_;(focus first|assumption|lia);cbv)|(refine Br.f ?_ ?_;(focus first|assumption|lia);cbv)|(refine Br.mk (fun _=>?_) (fun _=>?_)<;>cbv)|(refine Need.mk ?_ ?_;rotate_left;cbv)|(refine R0 ?_;cbv))
      all_goals first
        | (obtain⟨x1,x2⟩:=hrt (openE_arg hm (by clear hrt;grind));refine retF x2 fun rs=>?_;cbv;exact⟨x1,trivial⟩)
        | (have hk : isKey n = true ∧ 0 ≤ a ∧ a ≤ f.total := by (clear hrt; grind)
           first
             | (obtain⟨x1,x2⟩:=hrt (openE_same hm hk (by clear hrt;grind));refine retF x2 fun rs=>?_;cbv;exact⟨x1,trivial⟩)
             | (obtain⟨x1,x2⟩:=hrt (openE_full hm hk (by clear hrt;grind) (by clear hrt;grind));refine retF x2 fun rs=>?_;cbv;exact⟨x1,trivial⟩)
             | (obtain⟨x1,x2⟩:=hrt (openE_old hm hk (by clear hrt;grind) (by clear hrt;grind) (by clear hrt;grind));refine retF x2 fun rs=>?_;cbv;exact⟨x1,trivial⟩)
             | (exfalso;clear hrt;grind;done)
             | trace_state)
  · have hE0:O.o feedErr f=1:=by rw[O.h];exact feedErr_one (by simpa using hm)
    obtain⟨x1,x2⟩:=openE_bad (n:=n) (a:=a) (by simpa using hm)
    refine go (fn:=Proofs.Tryz.f95) (n:=62) (rv:=[ResultVar.cell 6 44,ResultVar.tmp 7]) rfl (by decide) rfl (by decide +kernel) rfl rfl (by simp) fun F L C=>?_
    cbv
    (repeat' first|(refine Na ?_ fun _ _=>?_;(focus lia);cbv)|(refine CallThen.mk _ _ (C.fn (fcheck_fn O f (by lia) (by lia) (inF_c hi))) ?_;cbv)|(refine Nl fun _ _ hq=>?_;(try simp only [lenS] at hq);cbv)|(refine Nm fun _ _=>?_;cbv)|(refine Br.t ?_ ?_;(focus first|assumption|lia);cbv)|(refine Br.f ?_ ?_;(focus first|assumption|lia);cbv)|(refine Br.mk (fun _=>?_) (fun _=>?_)<;>cbv)|(refine Need.mk ?_ ?_;rotate_left;cbv)|(refine R0 ?_;cbv))
    all_goals try lia
    simp only [O.h] at hE0 ⊢
    rw[x1,x2,hE0]
    exact⟨rfl,rfl,rfl,rfl,rfl,trivial⟩
theorem ack_set {O:Opq} {f:Feed} {n:ByteArray} {a:Int} {k:Nat} {s:Sub} (hk:(posKZ Sub.name f.subs n).toNat=k) (hn:s.name=n):O.o Subs.enc (ackF f n a).subs=(O.o Subs.enc f.subs).set k [.str s.name,.int .i64 a]:=by
 simp only [O.h]
 simp only [ackF,hk,Subs.enc,List.map_set,hn,Sub.enc]
set_option maxHeartbeats 4000000 in
theorem ack_fn (O:Opq) (f:Feed) (n:ByteArray) (a:Int) (hi:inF f):Fn prog 96 [.agg (f.enc O),.str n,.int .i64 a] [] [.agg (Feed.enc O (O.o ackR f n a)),.int .i64 (O.o ackE f n a)] []:=by
 have hl:=hi.1
 have hs:=hi.2.1
 have hl1:=Chs.len O f.changes
 have hl2:=Subs.len O f.subs
 have hE:O.o feedErr f=0 ↔ mayF f=true:=by rw[O.h,feedErr_zero]
 by_cases hm:mayF f=true
 ·have hE0:O.o feedErr f=0:=hE.2 hm
  have hso:=mayF_subs hm
  have hg1:O.o (getK Sub.name) f.subs n=getK Sub.name f.subs n:=by rw[O.h]
  have hrt:∀ {e:Int},ackE f n a=e∧ackR f n a=f→O.o ackE f n a=e∧O.o ackR f n a=f:=fun h=>by simp only [O.h];exact h
  cases hg:getK Sub.name f.subs n with
  | false =>
   rw[hg] at hg1
   obtain⟨x1,x2⟩:=hrt (ackE_none (a:=a) hm hg)
   clear hrt
   refine go (fn:=Proofs.Tryz.f96) (n:=49) (rv:=[ResultVar.cell 6 44,ResultVar.tmp 7]) rfl (by decide) rfl (by decide +kernel) rfl rfl (by simp) fun F L C=>?_
   cbv
   (repeat' first|(refine Na ?_ fun _ _=>?_;(focus lia);cbv)|(refine CallThen.mk _ _ (C.fn (fcheck_fn O f (by lia) (by lia) (inF_c hi))) ?_;cbv)|(refine CallThen.mk _ _ (C.fn (own_fn O f hl hs (inF_d hi))) ?_;cbv)|(refine CallThen.bool2F (C.fn (atS_fn O true f n (by lia) hso)) (by assumption) ?_;cbv)|(refine RetThen.mk [] [1280] ?_;cbv)|(refine Nl fun _ _ hq=>?_;(try simp only [lenS] at hq);cbv)|(refine Nm fun _ _=>?_;cbv)|(refine Br.t ?_ ?_;(focus first|assumption|lia);cbv)|(refine Br.f ?_ ?_;(focus first|assumption|lia);cbv)|(refine Br.mk (fun _=>?_) (fun _=>?_)<;>cbv)|(refine Need.mk ?_ ?_;rotate_left;cbv)|(refine R0 ?_;cbv))
   all_goals try lia
   refine retF x2 fun rs=>?_;cbv;exact⟨x1,trivial⟩
  | true =>
   rw[hg] at hg1
   obtain⟨s,hs1,hs2⟩:=posK_there hso hg
   have hsp:=subPos_at hs1
   have hpz:O.o (posKZ Sub.name) f.subs n=posK Sub.name f.subs n:=by rw[O.h];rfl
   have hpl:posK Sub.name f.subs n<f.subs.length:=(List.getElem?_eq_some_iff.1 hs1).1
   have hst:=fun {s2:Sub} (h:s2.name=n)=>ack_set (O:=O) (f:=f) (n:=n) (a:=a) (k:=posK Sub.name f.subs n) (s:=s2) posKZ_nat h
   obtain⟨k,hk⟩:∃ k,k=posK Sub.name f.subs n:=⟨_,rfl⟩
   rw[← hk] at hs1 hpz hpl hst
   obtain⟨w,hw⟩:∃ w,w=(O.o (posKZ Sub.name) f.subs n):=⟨_,rfl⟩
   have hat:=fun h1=>atS_fn O true f n h1 hso
   rw[← hw] at hpz hat
   refine go (fn:=Proofs.Tryz.f96) (n:=49) (rv:=[ResultVar.cell 6 44,ResultVar.tmp 7]) rfl (by decide) rfl (by decide +kernel) rfl rfl (by simp) fun F L C=>?_
   cbv
   (repeat' first|(refine Na ?_ fun _ _=>?_;(focus lia);cbv)|(refine CallThen.mk _ _ (C.fn (fcheck_fn O f (by lia) (by lia) (inF_c hi))) ?_;cbv)|(refine CallThen.mk _ _ (C.fn (own_fn O f hl hs (inF_d hi))) ?_;cbv)|(refine CallThen.bool2T (C.fn (hat (by lia))) (by assumption) ?_;cbv)|(refine Ex.at (Sub.enc s) ?_ ?_;rotate_left;cbv)|(refine RetThen.mk [] [1280] ?_;cbv)|(refine Nl fun _ _ hq=>?_;(try simp only [lenS] at hq);cbv)|(refine Nm fun _ _=>?_;cbv)|(refine Br.t ?_ ?_;(focus first|assumption|lia);cbv)|(refine Br.f ?_ ?_;(focus first|assumption|lia);cbv)|(refine Br.mk (fun _=>?_) (fun _=>?_)<;>cbv)|(refine Need.mk ?_ ?_;rotate_left;cbv)|(refine R0 ?_;cbv))
   all_goals try(clear hst hrt hs1 hat;lia)
   ·obtain⟨x1,x2⟩:=hrt (ackE_arg hm hg (by assumption))
    refine retF x2 fun rs=>?_;cbv;exact⟨x1,trivial⟩
   ·obtain⟨x1,x2⟩:=hrt (ackE_old hm hg (by assumption) (by rw[hsp];assumption))
    refine retF x2 fun rs=>?_;cbv;exact⟨x1,trivial⟩
   ·rename_i n1 e1 e2 n2 e3 R eR
    obtain⟨x1,x2⟩:=ackE_ok (a:=a) hm hg (by assumption) (by rw[hsp];exact e2)
    have x1':O.o ackE f n a=0:=by rw[O.h];exact x1
    have x2':O.o ackR f n a=ackF f n a:=by rw[O.h];exact x2
    have eR2:R=O.o Subs.enc (ackF f n a).subs:=by
     rw[hst hs2,eR,e3,hpz];rfl
    refine⟨?_,?_,?_,Named.mk fun rs e=>⟨?_,?_⟩⟩
    ·show(O.o ackR f n a).base=_;rw[x2'];rfl
    ·show(O.o ackR f n a).total=_;rw[x2'];rfl
    ·refine .of_eq ?_;show O.o (Chs.enc O) (O.o ackR f n a).changes=_;rw[x2'];rfl
    ·refine .of_eq ?_;show O.o Subs.enc (O.o ackR f n a).subs=_;rw[x2',e,eR2]
    ·cbv;exact⟨x1',trivial⟩
   all_goals
    rename_i n2 e3
    refine⟨by clear hst hrt hs1 hat;lia,?_⟩
    simp only [O.h]
    rw[show(Int.ofNat n2).toNat=k by rw[e3,hpz];rfl,Subs.enc,List.getElem?_map,hs1]
    rfl
 ·have hE0:O.o feedErr f=1:=by rw[O.h];exact feedErr_one (by simpa using hm)
  obtain⟨x1,x2⟩:=ackE_bad (n:=n) (a:=a) (by simpa using hm)
  refine go (fn:=Proofs.Tryz.f96) (n:=49) (rv:=[ResultVar.cell 6 44,ResultVar.tmp 7]) rfl (by decide) rfl (by decide +kernel) rfl rfl (by simp) fun F L C=>?_
  cbv
  (repeat' first|(refine Na ?_ fun _ _=>?_;(focus lia);cbv)|(refine CallThen.mk _ _ (C.fn (fcheck_fn O f (by lia) (by lia) (inF_c hi))) ?_;cbv)|(refine Nl fun _ _ hq=>?_;(try simp only [lenS] at hq);cbv)|(refine Nm fun _ _=>?_;cbv)|(refine Br.t ?_ ?_;(focus first|assumption|lia);cbv)|(refine Br.f ?_ ?_;(focus first|assumption|lia);cbv)|(refine Br.mk (fun _=>?_) (fun _=>?_)<;>cbv)|(refine Need.mk ?_ ?_;rotate_left;cbv)|(refine R0 ?_;cbv))
  all_goals try lia
  simp only [O.h] at hE0 ⊢
  rw[x1,x2,hE0]
  exact⟨rfl,rfl,rfl,rfl,rfl,trivial⟩
end Go.Sym
