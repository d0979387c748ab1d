/- The document's reading of expressions: numbers, paths. -/
import Derived.Test.YtjlefaabcalkkaaGreatDoorK13
import Derived.Test.YtjlefaabcalkkaaGreatDoorK19
set_option linter.all false
set_option linter.unusedVariables false
set_option linter.unusedSimpArgs false
namespace Go.Sym
open Go Go.Proofs.Tryz
set_option maxRecDepth 100000
theorem wrapU8 {x:Int} (h:0≤x∧x<256):IntKind.u8.wrap x=x:=by
 simp [IntKind.wrap,IntKind.signed,IntKind.bits];omega
def valI (s:List UInt8) (i:Nat):Int:=(natOf (s.take i):Nat)
theorem valI_step {s:List UInt8} {i:Nat} (h:i<s.length) (hd:isD (s.getD i 0)=true):valI s (i+1)=valI s i * 10+(((s.getD i 0).toNat:Int)-48):=by
 have hd:=isD_int.1 hd
 rw[valI,take_snoc (getD_some h),natOf_snoc,valI]
 generalize (s.getD i 0).toNat=k at hd ⊢
 omega
theorem valI_lt {s:List UInt8} (h:plainL s=true) (i:Nat) (hi:i≤16):0≤valI s i∧valI s i<10000000000000000:=by
 have hp:plainL (s.take i)=true:=by
  rw[plainL,List.all_eq_true] at h ⊢
  exact fun c hc=>h c (List.mem_of_mem_take hc)
 have h1:=natOf_lt hp
 have h2:(s.take i).length≤16:=by rw[List.length_take];omega
 have h3:10 ^ (s.take i).length≤10 ^ 16:=Nat.pow_le_pow_right (by decide) h2
 rw[valI];omega
theorem noPar {s:List UInt8} (h:¬ 40∈s) {i:Nat} (hi:i<s.length):¬ ((s.getD i 0).toNat:Int)=40:=fun e=>by
 have:=(u8_int (c:=s.getD i 0) (k:=40) (by decide)).1 e
 exact h (by have k:=List.mem_of_getElem? (getD_some hi);rw[this] at k;exact k)
set_option maxHeartbeats 4000000 in
theorem readP {O:Opq} {s:List UInt8} {S:ByteArray} {v V:Int} {DS:ByteArray} {qt:Bool} (hS:S=O.o ofL s) (h0:¬ S=ByteArray.empty) (hv:1≤v∧v≤300) (hl:s.length≤256) (h40:¬ 40∈s)
  (k43:Fn prog 116 [.str S,.int .u8 43] [] [.int .i64 (-1)] []) (k42:Fn prog 116 [.str S,.int .u8 42] [] [.int .i64 (-1)] [])
  (kw:Fn prog 117 [.str S] [] [.bool false] [])
  (kp:Fn prog 119 [.str S] [] [.bool false] [])
  (kt:Fn prog 46 [.str S] [] [.bool qt] [])
  (hV:false=true→V=O.o (valI s) (min s.length 16)) (kg:false=true→Fn prog 120 [.int .i64 V] [] [.str DS] []):Fn prog 90 [.str S,.int .i64 v] [] [.agg [.int .i64 1,.str S,.int .i64 0,.sl false 0 false 4 []],.bool qt] []:=by
 have hs:S.size=s.length:=by rw[hS,O.h,size_ofL]
 have hb:∀ i:Nat,byteAt S i=((s.getD i 0).toNat:Int):=fun i=>by rw[hS,O.h,byteAt_ofL]
 obtain⟨z,hz⟩:∃ z:Nat,z=0:=⟨_,rfl⟩
 obtain⟨N,hN⟩:∃ N:Nat,N=s.length:=⟨_,rfl⟩
 clear hS
 refine go (fn:=Proofs.Tryz.f90) (n:=154) (rv:=[ResultVar.cell 4 103,ResultVar.tmp 5]) rfl (by decide) rfl (by decide +kernel) rfl rfl (by simp) fun F L C=>?_
 cbv
 (repeat' first|(refine CallThen.mk _ _ (C.fn (k43)) ?_;cbv)|(refine CallThen.mk _ _ (C.fn (k42)) ?_;cbv)|(refine CallThen.mk _ _ (C.fn (kw)) ?_;cbv)|(refine Br.t ?_ ?_;(focus first|assumption|lia);cbv)|(refine Br.f ?_ ?_;(focus first|assumption|lia);cbv))
 all_goals try(exfalso;clear hb kp;lia)
 refine LoopThen.mk (C.loopAt (ι:=Nat) [(12,12),(72,83)] (fun i=>[(12,.int .i64 i)]) (fun _=>[(384,.box [.int .i64 0,.str ByteArray.empty,.int .i64 0,.nils])])
  (fun i=>i≤s.length) (fun i=>N-i) (by decide +kernel) (Start.mk z [] [] (show z≤s.length by omega) ?_) ?_)
 ·cbv
  (repeat' apply And.intro)<;>first|exact True.intro|exact WkR.refl _|rfl|(clear hb kp;lia)|trace_state
 intro i g
 cbv
 have g1:i≤s.length:=g
 clear g
 by_cases hi:i<s.length
 ·have hx:¬ byteAt S i=40:=by rw[hb];exact noPar h40 hi
  clear hb
  (repeat' first|(refine Na ?_ fun _ _=>?_;(focus lia);cbv)|(refine Back.up [] [] ?_ ?_ fun _ _=>?_;rotate_left 2;cbv;refine And.intro ?_ ?_)|(refine Nm fun _ _=>?_;cbv)|(refine Br.t ?_ ?_;(focus first|assumption|lia);cbv)|(refine Br.f ?_ ?_;(focus first|assumption|lia);cbv)|(refine Need.mk ?_ ?_;rotate_left;cbv))
  all_goals(repeat' apply And.intro)
  all_goals first
   | exact True.intro
   | exact WkR.refl _
   | rfl
   | (clear kp;lia)
   | (exfalso;clear kp;lia)
   | trace_state
 ·clear kg hb hV
  (repeat' first|(refine CallThen.mk _ _ (C.fn (kp)) ?_;cbv)|(refine CallThen.mk _ _ (C.fn (kt)) ?_;cbv)|(refine Nm fun _ _=>?_;cbv)|(refine Br.f ?_ ?_;(focus first|assumption|lia);cbv)|(refine R0 ?_;cbv))
  all_goals first
   | exact⟨.refl _,trivial⟩
   | exact⟨rfl,rfl,trivial⟩
   | (exfalso;clear kp kt;lia)
   | trace_state
set_option maxHeartbeats 4000000 in
theorem readD {O:Opq} {s:List UInt8} {S:ByteArray} {v V:Int} {DS:ByteArray} {qt:Bool} (hS:S=O.o ofL s) (h0:¬ S=ByteArray.empty) (hv:1≤v∧v≤300) (hl:s.length≤256) (h40:¬ 40∈s)
  (k43:Fn prog 116 [.str S,.int .u8 43] [] [.int .i64 (-1)] []) (k42:Fn prog 116 [.str S,.int .u8 42] [] [.int .i64 (-1)] [])
  (kw:Fn prog 117 [.str S] [] [.bool false] [])
  (kp:Fn prog 119 [.str S] [] [.bool true] [])
  (kt:Fn prog 46 [.str S] [] [.bool qt] [])
  (hV:true=true→V=O.o (valI s) (min s.length 16)) (kg:true=true→Fn prog 120 [.int .i64 V] [] [.str DS] []){q:Bool} (hpl:plainL s=true) (hq:q=true ↔ s.length≤15∧DS=S):Fn prog 90 [.str S,.int .i64 v] [] [.agg [.int .i64 2,.str ByteArray.empty,.int .i64 V,.sl false 0 false 4 []],.bool q] []:=by
 have hs:S.size=s.length:=by rw[hS,O.h,size_ofL]
 have hb:∀ i:Nat,byteAt S i=((s.getD i 0).toNat:Int):=fun i=>by rw[hS,O.h,byteAt_ofL]
 obtain⟨z,hz⟩:∃ z:Nat,z=0:=⟨_,rfl⟩
 obtain⟨N,hN⟩:∃ N:Nat,N=s.length:=⟨_,rfl⟩
 clear hS
 refine go (fn:=Proofs.Tryz.f90) (n:=154) (rv:=[ResultVar.cell 4 103,ResultVar.tmp 5]) rfl (by decide) rfl (by decide +kernel) rfl rfl (by simp) fun F L C=>?_
 cbv
 (repeat' first|(refine CallThen.mk _ _ (C.fn (k43)) ?_;cbv)|(refine CallThen.mk _ _ (C.fn (k42)) ?_;cbv)|(refine CallThen.mk _ _ (C.fn (kw)) ?_;cbv)|(refine Br.t ?_ ?_;(focus first|assumption|lia);cbv)|(refine Br.f ?_ ?_;(focus first|assumption|lia);cbv))
 all_goals try(exfalso;clear hb kp;lia)
 refine LoopThen.mk (C.loopAt (ι:=Nat) [(12,12),(72,83)] (fun i=>[(12,.int .i64 i)]) (fun _=>[(384,.box [.int .i64 0,.str ByteArray.empty,.int .i64 0,.nils])])
  (fun i=>i≤s.length) (fun i=>N-i) (by decide +kernel) (Start.mk z [] [] (show z≤s.length by omega) ?_) ?_)
 ·cbv
  (repeat' apply And.intro)<;>first|exact True.intro|exact WkR.refl _|rfl|(clear hb kp;lia)|trace_state
 intro i g
 cbv
 have g1:i≤s.length:=g
 clear g
 by_cases hi:i<s.length
 ·have hx:¬ byteAt S i=40:=by rw[hb];exact noPar h40 hi
  clear hb
  (repeat' first|(refine Na ?_ fun _ _=>?_;(focus lia);cbv)|(refine Back.up [] [] ?_ ?_ fun _ _=>?_;rotate_left 2;cbv;refine And.intro ?_ ?_)|(refine Nm fun _ _=>?_;cbv)|(refine Br.t ?_ ?_;(focus first|assumption|lia);cbv)|(refine Br.f ?_ ?_;(focus first|assumption|lia);cbv)|(refine Need.mk ?_ ?_;rotate_left;cbv))
  all_goals(repeat' apply And.intro)
  all_goals first
   | exact True.intro
   | exact WkR.refl _
   | rfl
   | (clear kp;lia)
   | (exfalso;clear kp;lia)
   | trace_state
 ·clear kt
  have kg:=kg rfl
  have hV:=hV rfl
  have hdig:∀ i:Nat,i<s.length→48≤byteAt S i∧byteAt S i≤57:=fun i hi=>by
   rw[hb];exact isD_int.1 (List.all_eq_true.1 hpl _ (List.mem_of_getElem? (getD_some hi)))
  have hst:∀ i:Nat,i<s.length→O.o (valI s) (i+1)=O.o (valI s) i * 10+(byteAt S i-48):=fun i hi=>by
   rw[O.h,hb];exact valI_step hi (List.all_eq_true.1 hpl _ (List.mem_of_getElem? (getD_some hi)))
  have hlt:∀ i:Nat,i≤16→0≤O.o (valI s) i∧O.o (valI s) i<10000000000000000:=fun i hi=>by rw[O.h];exact valI_lt hpl i hi
  have hz0:O.o (valI s) z=0:=by rw[O.h,hz];rfl
  clear hb
  (repeat' first|(refine CallThen.mk _ _ (C.fn (kp)) ?_;cbv)|(refine Nm fun _ _=>?_;cbv)|(refine Br.f ?_ ?_;(focus first|assumption|lia);cbv))
  all_goals try(exfalso;clear kp kg hdig hst hlt;lia)
  refine LoopThen.mk (C.loopAt (ι:=Nat) [(15,16),(123,140)] (fun i=>[(15,.int .i64 (O.o (valI s) i)),(16,.int .i64 i)]) (fun _=>[(384,.box [.int .i64 0,.str ByteArray.empty,.int .i64 0,.nils])])
   (fun i=>i≤s.length∧i≤16) (fun i=>N-i) (by decide +kernel) (Start.mk z [] [] ⟨by omega,by omega⟩ ?_) ?_)
  ·cbv
   (repeat' apply And.intro)<;>first|exact True.intro|exact WkR.refl _|rfl|exact hz0|exact hz0.symm|(clear hdig hst hlt kp kg;lia)|trace_state
  intro k g
  cbv
  have g1:k≤s.length:=g.1
  have g2:k≤16:=g.2
  clear g hz0
  have l1:=hlt k g2
  by_cases hk:k<s.length∧k<16
  ·have l2:=hdig k hk.1
   have l3:=hst k hk.1
   obtain⟨A1,hA1⟩:∃ A,A=O.o (valI s) (k+1):=⟨_,rfl⟩
   rw[← hA1] at l3
   obtain⟨b,hb⟩:∃ b,b=byteAt S k:=⟨_,rfl⟩
   rw[← hb] at l2 l3
   obtain⟨d,hd⟩:∃ d:Int,d=b-48:=⟨_,rfl⟩
   have hd1:d=IntKind.u8.wrap (b-48):=by rw[hd];exact(wrapU8 (by omega)).symm
   have hd2:d=IntKind.i64.wrap d:=(wrap64 (by omega)).symm
   clear hdig hst hlt
   (repeat' first|(refine Named.at' b hb ?_;cbv)|(refine Named.at' d hd1 ?_;cbv)|(refine Named.at' d hd2 ?_;cbv)|(refine Na ?_ fun _ _=>?_;(focus lia);cbv)|(refine Back.up [] [] ?_ ?_ fun _ _=>?_;rotate_left 2;cbv;refine And.intro ?_ ?_)|(refine Nm fun _ _=>?_;cbv)|(refine Br.t ?_ ?_;(focus first|assumption|lia);cbv)|(refine Need.mk ?_ ?_;rotate_left;cbv))
   all_goals(repeat' apply And.intro)
   all_goals try first
    | exact True.intro
    | exact WkR.refl _
    | rfl
    | (clear kp kg hA1 hd1 hd2;lia)
   all_goals first
    | (rename_i y ey;subst ey;refine hA1.symm.trans ?_;clear hA1 kp kg hd1 hd2;lia)
    | (rename_i y ey;subst ey;refine Eq.trans ?_ hA1;clear hA1 kp kg hd1 hd2;lia)
    | (exfalso;clear kp kg hA1 hd1 hd2;lia)
    | trace_state
  ·have hVk:V=O.o (valI s) k:=by rw[hV,show min s.length 16=k by omega]
   clear hdig hst hlt hV
   subst hVk
   cases q
   all_goals
    (repeat' first|(refine CallThen.mk _ _ (C.fn (kg)) ?_;cbv)|(refine Nm fun _ _=>?_;cbv)|(refine Br.t ?_ ?_;(focus first|assumption|lia);cbv)|(refine Br.f ?_ ?_;(focus first|assumption|lia);cbv)|(refine Br.mk (fun _=>?_) (fun _=>?_)<;>cbv)|(refine R0 ?_;cbv))
    all_goals first
     | exact⟨rfl,rfl,trivial⟩
     | exact⟨rfl,trivial⟩
     | exact⟨.refl _,trivial⟩
     | exact absurd (hq.1 rfl).2 (by assumption)
     | exact absurd (hq.2 ⟨by clear kp kg hq;lia,by assumption⟩) (by decide)
     | (exfalso;clear kp kg hq;lia)
     | (exfalso;have:=(hq.1 rfl).1;clear kp kg hq;lia)
     | trace_state
end Go.Sym
