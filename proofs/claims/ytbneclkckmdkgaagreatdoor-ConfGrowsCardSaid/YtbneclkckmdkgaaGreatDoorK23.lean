/- Configurations: may it be? The program's Check. -/
import Derived.Test.YtbneclkckmdkgaaGreatDoorK21
set_option linter.all false
set_option linter.unusedVariables false
set_option linter.unusedSimpArgs false
namespace Go.Sym
open Go Go.Proofs.Tryz
set_option maxRecDepth 100000
def askP (ever id jo:Int) (nb jb eb db:Bool):Prop:=1≤id∧id≤ever∧nb=true∧eb=true∧db=true∧(jo=0∨(1≤jo∧jo≤99∧jb=false))
theorem ask_iff (O:Opq) {ever id:Int} {dfn:ByteArray} {ep jo:Int} {mem:List Int}:chnOk ever ⟨id,dfn,ep,mem,jo⟩ ↔ askP ever id jo (O.o nodesD mem) (O.o (inI jo) mem) (O.o cntB ep 1) (O.o defD id dfn):=by
 rw[chnOk_iff]
 simp only [O.h,askP]
 have h1:inI jo mem=false ↔ ¬ jo∈mem:=by simp [inI]
 have h2:cntB ep 1=true ↔ 1≤ep∧ep≤2147483647:=by simp [cntB]
 rw[h1,h2]
set_option maxHeartbeats 8000000 in
theorem confCheck_fn (O : Opq) (rev ever : Int) (chains : List Chn) (c1 : chains.length ≤ 1000000) (c2 : ∀ x ∈ chains, x.mem.length ≤ 1000000 ∧ x.dfn.size ≤ 1000000) :
    Fn prog 12 [.agg [.int .i64 rev,.int .i64 ever,.sl false 0 false 5 (O.o (Chns.enc O) chains)]] [] [.int .i64 (O.o mayE ⟨rev,ever,chains⟩)] []:=by
  have hlen:=Chns.len O chains
  have k1:=ccount_fn O rev 0
  have k2:=ccount_fn O ever 0
  obtain⟨R,eR⟩:∃ R,R=O.o mayE ⟨rev,ever,chains⟩:=⟨_,rfl⟩
  have hR:R=mayE ⟨rev,ever,chains⟩:=by rw[eR,O.h]
  rw[← eR]
  clear eR
  have hRn:¬ mayC ⟨rev,ever,chains⟩→R=1:=fun h=>hR.trans (mayE_no h)
  have hRy:mayC ⟨rev,ever,chains⟩→R=0:=fun h=>hR.trans (mayE_yes h)
  have b1:O.o cntB rev 0=true ↔ countB rev 0:=by rw[O.h];exact cntB_iff
  have b2:O.o cntB ever 0=true ↔ countB ever 0:=by rw[O.h];exact cntB_iff
  obtain⟨B1,e1⟩:∃ B,B=O.o cntB rev 0:=⟨_,rfl⟩
  obtain⟨B2,e2⟩:∃ B,B=O.o cntB ever 0:=⟨_,rfl⟩
  rw[← e1] at k1 b1
  rw[← e2] at k2 b2
  clear e1 e2 hR
  by_cases hg:B1=true∧B2=true∧chains.length≤4
  · obtain⟨rfl,rfl,h4⟩:=hg
    have hb1:=b1.1 rfl
    have hb2:=b2.1 rfl
    obtain⟨z,hz⟩:∃ z:Nat,z=0:=⟨_,rfl⟩
    obtain⟨N,hN⟩:∃ N:Nat,N=chains.length:=⟨_,rfl⟩
    have hz0:chnsTo ⟨rev,ever,chains⟩ z:=by rw[hz];exact chnsTo_zero _
    clear b1 b2
    refine go (fn:=Proofs.Tryz.f12) (n:=101) (rv:=[ResultVar.tmp 2]) rfl (by decide) rfl (by decide +kernel) rfl rfl (by simp) fun F L C=>?_
    cbv
    (repeat' first|(refine Na ?_ fun _ _=>?_;(focus lia);cbv)|(refine CallThen.mk _ _ (C.fn (k1)) ?_;cbv)|(refine CallThen.mk _ _ (C.fn (k2)) ?_;cbv)|(refine Nl fun _ _ hq=>?_;(try simp only [lenS] at hq);cbv)|(refine Nm fun _ _=>?_;cbv)|(refine Br.t ?_ ?_;(focus first|assumption|lia);cbv)|(refine Br.f ?_ ?_;(focus first|assumption|lia);cbv)|(refine Br.mk (fun _=>?_) (fun _=>?_)<;>cbv)|(refine Need.mk ?_ ?_;rotate_left;cbv)|(refine R0 ?_;cbv))
    all_goals try(exfalso;clear k1 k2 c2 hRn hRy hb1 hb2 hz0;lia)
    refine LoopThen.mk (C.loopAt (ι:=Nat) [(2,5),(25,101)] (fun k=>[(25,.int .i64 k),(4,.top)]) (fun _=>[(192,.box [.int .i64 rev,.int .i64 ever,.sl false 0 false 5 (O.o (Chns.enc O) chains)])])
      (fun k=>k≤chains.length∧chnsTo ⟨rev,ever,chains⟩ k) (fun k=>N-k) (by decide +kernel) (Start.mk z [] [] ⟨by omega,hz0⟩ ?_) ?_)
    · cbv
      (repeat' apply And.intro)<;>first|exact True.intro|exact WkR.refl _|rfl|(clear k1 k2 c2 hRn hRy hb1 hb2 hz0;lia)|trace_state
    intro k g
    cbv
    have g1:k≤chains.length:=g.1
    have g2:chnsTo ⟨rev,ever,chains⟩ k:=g.2
    clear g hz0 k1 k2
    by_cases hk:k<chains.length
    · obtain⟨⟨id,dfn,ep,mem,jo⟩,hx⟩:∃ x,chains[k]?=some x:=⟨chains[k],by simp [hk]⟩
      obtain⟨s1,s2⟩:=c2 _ (List.mem_of_getElem? hx)
      have s1:mem.length≤1000000:=s1
      have s2:dfn.size≤1000000:=s2
      have kn:=cnodes_fn O mem s1
      have kj:=containsI_fn O mem jo s1
      have ke:=ccount_fn O ep 1
      have kd:=creads_fn O id dfn (by omega)
      have hok:=ask_iff O (ever:=ever) (id:=id) (dfn:=dfn) (ep:=ep) (jo:=jo) (mem:=mem)
      have hno1:¬ chnOk ever ⟨id,dfn,ep,mem,jo⟩→R=1:=fun h=>hRn (mayC_no hx (.inl h))
      have hno2:¬ aheadOk ⟨rev,ever,chains⟩ k ⟨id,dfn,ep,mem,jo⟩→R=1:=fun h=>hRn (mayC_no hx (.inr h))
      have hst:chnOk ever ⟨id,dfn,ep,mem,jo⟩→aheadOk ⟨rev,ever,chains⟩ k ⟨id,dfn,ep,mem,jo⟩→chnsTo ⟨rev,ever,chains⟩ (k+1):=fun h1 h2=>chnsTo_step hx g2 h1 h2
      rw[hok] at hno1 hst
      obtain⟨NB,e1⟩:∃ B,B=O.o nodesD mem:=⟨_,rfl⟩
      obtain⟨JB,e2⟩:∃ B,B=O.o (inI jo) mem:=⟨_,rfl⟩
      obtain⟨EB,e3⟩:∃ B,B=O.o cntB ep 1:=⟨_,rfl⟩
      obtain⟨DB,e4⟩:∃ B,B=O.o defD id dfn:=⟨_,rfl⟩
      rw[← e1] at kn
      rw[← e2] at kj
      rw[← e3] at ke
      rw[← e4] at kd
      rw[← e1,← e2,← e3,← e4] at hno1 hst
      clear hok e1 e2 e3 e4 hRn hRy c2 g2
      have hfin:∀ {P:Prop},P ↔ P:=Iff.rfl
      cases k with
      | zero =>
        have hst:=fun h=>hst h (fun y h0=>absurd h0 (Nat.lt_irrefl 0))
        clear hno2 hfin
        unfold askP at hno1 hst
        (repeat' first|(refine Na ?_ fun _ _=>?_;(focus lia);cbv)|(refine Ex.chn O hx ?_ ?_;(focus lia);cbv)|(refine CallThen.bool (C.fn (kn)) (fun _=>?_) (fun _=>?_)<;>cbv)|(refine CallThen.bool (C.fn (kj)) (fun _=>?_) (fun _=>?_)<;>cbv)|(refine CallThen.bool (C.fn (ke)) (fun _=>?_) (fun _=>?_)<;>cbv)|(refine CallThen.bool (C.fn (kd)) (fun _=>?_) (fun _=>?_)<;>cbv)|(refine Back.up [] [] ?_ ?_ fun _ _=>?_;rotate_left 2;cbv;refine And.intro ?_ ?_)|(refine Nl fun _ _ hq=>?_;(try simp only [lenS] at hq);cbv)|(refine Nm fun _ _=>?_;cbv)|(refine Br.t ?_ ?_;(focus first|assumption|lia);cbv)|(refine Br.f ?_ ?_;(focus first|assumption|lia);cbv)|(refine Br.mk (fun _=>?_) (fun _=>?_)<;>cbv)|(refine Need.mk ?_ ?_;rotate_left;cbv)|(refine R0 ?_;cbv))
        all_goals clear kn kj ke kd
        all_goals first
          | exact ⟨hno1 (by rintro ⟨h1, h2, h3, h4, h5, h6⟩; first | omega | exact absurd (h3.symm.trans (show NB = false by assumption)) (by decide) | exact absurd (h4.symm.trans (show EB = false by assumption)) (by decide) | exact absurd (h5.symm.trans (show DB = false by assumption)) (by decide) | (rcases h6 with h | h; (exact absurd h (by assumption)); exact absurd (h.2.2.symm.trans (show JB = true by assumption)) (by decide))), trivial⟩
                    | exact⟨by omega,hst ⟨by omega,by omega,by assumption,by assumption,by assumption,by first|exact .inl (by assumption)|exact .inr ⟨by omega,by omega,by assumption⟩⟩⟩
                    | exact⟨by omega,hst ⟨by omega,by omega,by assumption,by assumption,by assumption,by first|exact .inl (by assumption)|exact .inr ⟨by omega,by omega,by assumption⟩⟩ (by omega)⟩
                    | (refine⟨.refl _,.refl _,.refl _,?_,trivial⟩;lia)
                    | exact WkR.refl _
                    | (exfalso;omega)
                    | omega
                    | lia
                    | trace_state
      | succ m =>
        obtain⟨⟨id0,dfn0,ep0,mem0,jo0⟩,hy⟩:∃ x,chains[m]?=some x:=⟨chains[m]'(by omega),by simp⟩
        have hno2:id≤id0→R=1:=fun h=>hno2 (fun q=>by
          have q:id0<id:=q ⟨id0,dfn0,ep0,mem0,jo0⟩ (by omega) hy
          omega)
        have hst:_→id0<id→_:=fun h k=>hst h (fun y h0 hy2=>by
          have hy2:chains[m]?=some y:=hy2
          rw[hy] at hy2;cases hy2;exact k)
        clear hfin
        unfold askP at hno1 hst
        (repeat' first|(refine Na ?_ fun _ _=>?_;(focus lia);cbv)|(refine Ex.chn O hx ?_ ?_;(focus lia);cbv)|(refine Ex.chn O hy ?_ ?_;(focus lia);cbv)|(refine CallThen.bool (C.fn (kn)) (fun _=>?_) (fun _=>?_)<;>cbv)|(refine CallThen.bool (C.fn (kj)) (fun _=>?_) (fun _=>?_)<;>cbv)|(refine CallThen.bool (C.fn (ke)) (fun _=>?_) (fun _=>?_)<;>cbv)|(refine CallThen.bool (C.fn (kd)) (fun _=>?_) (fun _=>?_)<;>cbv)|(refine Back.up [] [] ?_ ?_ fun _ _=>?_;rotate_left 2;cbv;refine And.intro ?_ ?_)|(refine Nl fun _ _ hq=>?_;(try simp only [lenS] at hq);cbv)|(refine Nm fun _ _=>?_;cbv)|(refine Br.t ?_ ?_;(focus first|assumption|lia);cbv)|(refine Br.f ?_ ?_;(focus first|assumption|lia);cbv)|(refine Br.mk (fun _=>?_) (fun _=>?_)<;>cbv)|(refine Need.mk ?_ ?_;rotate_left;cbv)|(refine R0 ?_;cbv))
        all_goals clear kn kj ke kd
        all_goals first
          | exact⟨hno2 (by omega),trivial⟩
          | exact ⟨hno1 (by rintro ⟨h1, h2, h3, h4, h5, h6⟩; first | omega | exact absurd (h3.symm.trans (show NB = false by assumption)) (by decide) | exact absurd (h4.symm.trans (show EB = false by assumption)) (by decide) | exact absurd (h5.symm.trans (show DB = false by assumption)) (by decide) | (rcases h6 with h | h; (exact absurd h (by assumption)); exact absurd (h.2.2.symm.trans (show JB = true by assumption)) (by decide))), trivial⟩
                    | exact⟨by omega,hst ⟨by omega,by omega,by assumption,by assumption,by assumption,by first|exact .inl (by assumption)|exact .inr ⟨by omega,by omega,by assumption⟩⟩⟩
                    | exact⟨by omega,hst ⟨by omega,by omega,by assumption,by assumption,by assumption,by first|exact .inl (by assumption)|exact .inr ⟨by omega,by omega,by assumption⟩⟩ (by omega)⟩
                    | (refine⟨.refl _,.refl _,.refl _,?_,trivial⟩;lia)
                    | exact WkR.refl _
                    | (exfalso;omega)
                    | omega
                    | lia
                    | trace_state
    · have hyes:=hRy ((mayC_end g2 (by show chains.length≤k;omega)).2 ⟨hb1,hb2,h4⟩)
      clear c2 hRn hRy g2 hb1 hb2
      (repeat' first|(refine Na ?_ fun _ _=>?_;(focus lia);cbv)|(refine Nl fun _ _ hq=>?_;(try simp only [lenS] at hq);cbv)|(refine Nm fun _ _=>?_;cbv)|(refine Br.t ?_ ?_;(focus first|assumption|lia);cbv)|(refine Br.f ?_ ?_;(focus first|assumption|lia);cbv)|(refine Br.mk (fun _=>?_) (fun _=>?_)<;>cbv)|(refine Need.mk ?_ ?_;rotate_left;cbv)|(refine R0 ?_;cbv))
      all_goals first
        | exact⟨hyes,trivial⟩
        | exact⟨hyes.symm,trivial⟩
        | (exfalso;lia)
        | trace_state
  · have hno:R=1:=hRn (fun h=>hg ⟨b1.2 h.1,b2.2 h.2.1,h.2.2.1⟩)
    clear hRn hRy c2 b1 b2
    cases B1
    all_goals cases B2
    all_goals
      simp only [Bool.false_eq_true,false_and,true_and,not_false_eq_true] at hg
      refine go (fn:=Proofs.Tryz.f12) (n:=101) (rv:=[ResultVar.tmp 2]) rfl (by decide) rfl (by decide +kernel) rfl rfl (by simp) fun F L C=>?_
      cbv
      (repeat' first|(refine Na ?_ fun _ _=>?_;(focus lia);cbv)|(refine CallThen.mk _ _ (C.fn (k1)) ?_;cbv)|(refine CallThen.mk _ _ (C.fn (k2)) ?_;cbv)|(refine Nl fun _ _ hq=>?_;(try simp only [lenS] at hq);cbv)|(refine Nm fun _ _=>?_;cbv)|(refine Br.t ?_ ?_;(focus first|assumption|lia);cbv)|(refine Br.f ?_ ?_;(focus first|assumption|lia);cbv)|(refine Br.mk (fun _=>?_) (fun _=>?_)<;>cbv)|(refine Need.mk ?_ ?_;rotate_left;cbv)|(refine R0 ?_;cbv))
      all_goals first
        | exact⟨hno,trivial⟩
        | exact⟨hno.symm,trivial⟩
        | (exfalso;clear k1 k2;lia)
        | trace_state
end Go.Sym
