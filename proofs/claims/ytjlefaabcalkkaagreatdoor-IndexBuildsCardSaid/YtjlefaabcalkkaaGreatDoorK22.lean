/- The document's reading of expressions: in parentheses; calls. -/
import Derived.Test.YtjlefaabcalkkaaGreatDoorK13
import Derived.Test.YtjlefaabcalkkaaGreatDoorK19
set_option linter.all false
set_option linter.unusedVariables false
set_option linter.unusedSimpArgs false
namespace Go.Sym
open Go Go.Proofs.Tryz
set_option maxRecDepth 100000
set_option maxHeartbeats 2000000 in
theorem readW {S A:ByteArray} {v w k1 n1:Int} {t1:ByteArray} {l1:List (List PV)} {q1:Bool} (h0:¬ S=ByteArray.empty) (hv:1≤v∧v≤300) (h2:2≤S.size) (hs:S.size≤256) (hw:w=IntKind.i64.wrap (v-1))
  (hA:A=S.extract 1 (S.size-1))
  (k43:Fn prog 116 [.str S,.int .u8 43] [] [.int .i64 (-1)] []) (k42:Fn prog 116 [.str S,.int .u8 42] [] [.int .i64 (-1)] [])
  (kw:Fn prog 117 [.str S] [] [.bool true] [])
  (ka:Fn prog 90 [.str A,.int .i64 w] [] [.agg [.int .i64 k1,.str t1,.int .i64 n1,.sl false 0 false 4 l1],.bool q1] []) :
  Fn prog 90 [.str S,.int .i64 v] [] [.agg [.int .i64 k1,.str t1,.int .i64 n1,.sl false 0 false 4 l1],.bool q1] []:=by
 obtain⟨m,hm⟩:∃ m:Int,m=(S.size:Int)-1:=⟨_,rfl⟩
 have hm2:m=IntKind.i64.wrap ((S.size:Int)-1):=by rw[wrap64 (by omega)];exact hm
 have hA:A=S.extract 1 m.toNat:=by rw[hA,show m.toNat=S.size-1 by omega]
 obtain⟨z,hz⟩:∃ z:Int,z=S.size:=⟨_,rfl⟩
 have hm3:m=IntKind.i64.wrap (z-1):=by rw[hz];exact hm2
 clear hm2
 refine go (fn:=Proofs.Tryz.f90) (n:=154) (rv:=[ResultVar.cell 4 103,ResultVar.tmp 5]) rfl (by decide) rfl (by decide +kernel) rfl rfl (by simp) fun F L C=>?_
 cbv
 (repeat' first|(refine Named.at' w hw ?_;cbv)|(refine Named.at' z hz ?_;cbv)|(refine Named.at' m hm3 ?_;cbv)|(refine Named.at' A hA ?_;cbv)|(refine CallThen.mk _ _ (C.fn (k43)) ?_;cbv)|(refine CallThen.mk _ _ (C.fn (k42)) ?_;cbv)|(refine CallThen.mk _ _ (C.fn (kw)) ?_;cbv)|(refine CallThen.mk _ _ (C.fn (ka)) ?_;cbv)|(refine Br.t ?_ ?_;(focus first|assumption|lia);cbv)|(refine Br.f ?_ ?_;(focus first|assumption|lia);cbv)|(refine Need.mk ?_ ?_;rotate_left;cbv)|(refine R0 ?_;cbv))
 all_goals first
  | exact⟨.refl _,trivial⟩
  | (clear ka hw hm3;lia)
  | (exfalso;clear ka hw hm3;lia)
  | trace_state
set_option maxHeartbeats 4000000 in
theorem readC1 {S H D A:ByteArray} {p:Nat} {v w k1 n1:Int} {t1:ByteArray} {l1:List (List PV)} {q1:Bool} {qt:Bool}(h0:¬ S=ByteArray.empty) (hv:1≤v∧v≤300) (hs:S.size≤256) (hw:w=IntKind.i64.wrap (v-1))
  (hp:p<S.size) (hnp:∀ j:Nat,j<p→¬ byteAt S j=40) (hpp:byteAt S p=40)
  (hH:H=S.extract 0 p) (hD:D=S.extract p S.size) (hA:A=S.extract (p+1) (S.size-1)) (hsz:(false && qt)=true→p+1≤S.size-1)
  (k43:Fn prog 116 [.str S,.int .u8 43] [] [.int .i64 (-1)] []) (k42:Fn prog 116 [.str S,.int .u8 42] [] [.int .i64 (-1)] [])
  (kw:Fn prog 117 [.str S] [] [.bool false] [])
  (kn:Fn prog 118 [.str H] [] [.bool false] [])
  (kd:Fn prog 117 [.str D] [] [.bool qt] [])
  (ka:Fn prog 90 [.str A,.int .i64 w] [] [.agg [.int .i64 k1,.str t1,.int .i64 n1,.sl false 0 false 4 l1],.bool q1] []) :
  Fn prog 90 [.str S,.int .i64 v] [] [.agg [.int .i64 0,.str ByteArray.empty,.int .i64 0,.sl false 0 false 4 []],.bool false] []:=by
 obtain⟨m,hm⟩:∃ m:Int,m=(S.size:Int)-1:=⟨_,rfl⟩
 obtain⟨z,hz⟩:∃ z:Int,z=S.size:=⟨_,rfl⟩
 have hm3:m=IntKind.i64.wrap (z-1):=by rw[hz,wrap64 (by omega)];exact hm
 obtain⟨P,hP⟩:∃ P:Int,P=p:=⟨_,rfl⟩
 have hP0:0≤P:=by rw[hP];exact Int.natCast_nonneg _
 have hnp:∀ i:Int,0≤i→i<P→¬ byteAt S i=40:=fun i a b=>by
  obtain⟨k,rfl⟩:=Int.eq_ofNat_of_zero_le a
  exact hnp k (Int.ofNat_lt.1 (by rw[hP] at b;exact b))
 obtain⟨j,hj⟩:∃ j:Int,j=P+1:=⟨_,rfl⟩
 have hj3:j=IntKind.i64.wrap (P+1):=by rw[wrap64 (by omega)];exact hj
 have hH:H=S.extract 0 P.toNat:=by rw[hH,hP,Int.toNat_natCast]
 have hD:D=S.extract P.toNat S.size:=by rw[hD,hP,Int.toNat_natCast]
 have hA:A=S.extract j.toNat m.toNat:=by rw[hA,show j.toNat=p+1 by omega,show m.toNat=S.size-1 by omega]
 obtain⟨i0,hi0⟩:∃ i:Int,i=0:=⟨_,rfl⟩
 refine go (fn:=Proofs.Tryz.f90) (n:=154) (rv:=[ResultVar.cell 4 103,ResultVar.tmp 5]) rfl (by decide) rfl (by decide +kernel) rfl rfl (by simp) fun F L C=>?_
 cbv
 (repeat' first|(refine CallThen.mk _ _ (C.fn (k43)) ?_;cbv)|(refine CallThen.mk _ _ (C.fn (k42)) ?_;cbv)|(refine CallThen.mk _ _ (C.fn (kw)) ?_;cbv)|(refine Br.t ?_ ?_;(focus first|assumption|lia);cbv)|(refine Br.f ?_ ?_;(focus first|assumption|lia);cbv))
 all_goals try(exfalso;clear ka hw hm3 hj3 hnp;lia)
 refine LoopThen.mk (C.loopAt (ι:=Int) [(12,12),(72,83)] (fun i=>[(12,.int .i64 i)]) (fun _=>[(384,.box [.int .i64 0,.str ByteArray.empty,.int .i64 0,.nils])])
  (fun i=>0≤i∧i≤P) (fun i=>(P-i).toNat) (by decide +kernel) (Start.mk i0 [] [] ⟨Int.le_of_eq hi0.symm,hi0 ▸ hP0⟩ ?_) ?_)
 ·cbv
  (repeat' apply And.intro)<;>first|exact True.intro|exact WkR.refl _|rfl|(clear hnp ka kw kn kd k43 k42 hw hm3 hj3;lia)|trace_state
 intro i g
 cbv
 have g1:0≤i:=g.1
 have g2:i≤P:=g.2
 clear g
 by_cases hi:i<P
 ·have hb:¬ byteAt S i=40:=hnp i g1 hi
  clear hnp
  (repeat' first|(refine Na ?_ fun _ _=>?_;(focus lia);cbv)|(apply Back.of (i:=(_:Int)) [] [];focus(cbv;exact⟨rfl,trivial⟩))|(refine Nm fun _ _=>?_;cbv)|(refine Br.t ?_ ?_;(focus first|assumption|lia);cbv)|(refine Br.f ?_ ?_;(focus first|assumption|lia);cbv)|(refine Need.mk ?_ ?_;rotate_left;cbv))
  all_goals first
   | (clear ka hw hm3 hj3;lia)
   | (exfalso;clear ka hw hm3 hj3;lia)
   | (refine⟨⟨?_,?_⟩,?_⟩<;>clear ka hw hm3 hj3<;>first|lia|(show(_:Nat)<_;omega))
   | trace_state
 ·obtain rfl:i=P:=by omega
  have hb:byteAt S i=40:=by rw[hP];exact hpp
  clear hnp
  (repeat' first|(refine Named.at' z hz ?_;cbv)|(refine Named.at' H hH ?_;cbv)|(refine CallThen.mk _ _ (C.fn (kn)) ?_;cbv)|(refine RetThen.mk [] [7680] ?_;cbv)|(refine Nm fun _ _=>?_;cbv)|(refine Br.t ?_ ?_;(focus first|assumption|lia);cbv)|(refine Need.mk ?_ ?_;rotate_left;cbv))
  all_goals first
   | exact⟨rfl,rfl,trivial⟩
   | (rename_i R eR;exact⟨.of_eq eR.symm,trivial⟩)
   | exact⟨.refl _,trivial⟩
   | (clear ka hw hm3 hj3;lia)
   | (exfalso;clear ka hw hm3 hj3;lia)
   | (simp at hsz;clear ka hw hm3 hj3;lia)
   | trace_state
set_option maxHeartbeats 4000000 in
theorem readC2 {S H D A:ByteArray} {p:Nat} {v w k1 n1:Int} {t1:ByteArray} {l1:List (List PV)} {q1:Bool} (h0:¬ S=ByteArray.empty) (hv:1≤v∧v≤300) (hs:S.size≤256) (hw:w=IntKind.i64.wrap (v-1))
  (hp:p<S.size) (hnp:∀ j:Nat,j<p→¬ byteAt S j=40) (hpp:byteAt S p=40)
  (hH:H=S.extract 0 p) (hD:D=S.extract p S.size) (hA:A=S.extract (p+1) (S.size-1)) (hsz:(true && false)=true→p+1≤S.size-1)
  (k43:Fn prog 116 [.str S,.int .u8 43] [] [.int .i64 (-1)] []) (k42:Fn prog 116 [.str S,.int .u8 42] [] [.int .i64 (-1)] [])
  (kw:Fn prog 117 [.str S] [] [.bool false] [])
  (kn:Fn prog 118 [.str H] [] [.bool true] [])
  (kd:Fn prog 117 [.str D] [] [.bool false] [])
  (ka:Fn prog 90 [.str A,.int .i64 w] [] [.agg [.int .i64 k1,.str t1,.int .i64 n1,.sl false 0 false 4 l1],.bool q1] []) :
  Fn prog 90 [.str S,.int .i64 v] [] [.agg [.int .i64 0,.str ByteArray.empty,.int .i64 0,.sl false 0 false 4 []],.bool false] []:=by
 obtain⟨m,hm⟩:∃ m:Int,m=(S.size:Int)-1:=⟨_,rfl⟩
 obtain⟨z,hz⟩:∃ z:Int,z=S.size:=⟨_,rfl⟩
 have hm3:m=IntKind.i64.wrap (z-1):=by rw[hz,wrap64 (by omega)];exact hm
 obtain⟨P,hP⟩:∃ P:Int,P=p:=⟨_,rfl⟩
 have hP0:0≤P:=by rw[hP];exact Int.natCast_nonneg _
 have hnp:∀ i:Int,0≤i→i<P→¬ byteAt S i=40:=fun i a b=>by
  obtain⟨k,rfl⟩:=Int.eq_ofNat_of_zero_le a
  exact hnp k (Int.ofNat_lt.1 (by rw[hP] at b;exact b))
 obtain⟨j,hj⟩:∃ j:Int,j=P+1:=⟨_,rfl⟩
 have hj3:j=IntKind.i64.wrap (P+1):=by rw[wrap64 (by omega)];exact hj
 have hH:H=S.extract 0 P.toNat:=by rw[hH,hP,Int.toNat_natCast]
 have hD:D=S.extract P.toNat S.size:=by rw[hD,hP,Int.toNat_natCast]
 have hA:A=S.extract j.toNat m.toNat:=by rw[hA,show j.toNat=p+1 by omega,show m.toNat=S.size-1 by omega]
 obtain⟨i0,hi0⟩:∃ i:Int,i=0:=⟨_,rfl⟩
 refine go (fn:=Proofs.Tryz.f90) (n:=154) (rv:=[ResultVar.cell 4 103,ResultVar.tmp 5]) rfl (by decide) rfl (by decide +kernel) rfl rfl (by simp) fun F L C=>?_
 cbv
 (repeat' first|(refine CallThen.mk _ _ (C.fn (k43)) ?_;cbv)|(refine CallThen.mk _ _ (C.fn (k42)) ?_;cbv)|(refine CallThen.mk _ _ (C.fn (kw)) ?_;cbv)|(refine Br.t ?_ ?_;(focus first|assumption|lia);cbv)|(refine Br.f ?_ ?_;(focus first|assumption|lia);cbv))
 all_goals try(exfalso;clear ka hw hm3 hj3 hnp;lia)
 refine LoopThen.mk (C.loopAt (ι:=Int) [(12,12),(72,83)] (fun i=>[(12,.int .i64 i)]) (fun _=>[(384,.box [.int .i64 0,.str ByteArray.empty,.int .i64 0,.nils])])
  (fun i=>0≤i∧i≤P) (fun i=>(P-i).toNat) (by decide +kernel) (Start.mk i0 [] [] ⟨Int.le_of_eq hi0.symm,hi0 ▸ hP0⟩ ?_) ?_)
 ·cbv
  (repeat' apply And.intro)<;>first|exact True.intro|exact WkR.refl _|rfl|(clear hnp ka kw kn kd k43 k42 hw hm3 hj3;lia)|trace_state
 intro i g
 cbv
 have g1:0≤i:=g.1
 have g2:i≤P:=g.2
 clear g
 by_cases hi:i<P
 ·have hb:¬ byteAt S i=40:=hnp i g1 hi
  clear hnp
  (repeat' first|(refine Na ?_ fun _ _=>?_;(focus lia);cbv)|(apply Back.of (i:=(_:Int)) [] [];focus(cbv;exact⟨rfl,trivial⟩))|(refine Nm fun _ _=>?_;cbv)|(refine Br.t ?_ ?_;(focus first|assumption|lia);cbv)|(refine Br.f ?_ ?_;(focus first|assumption|lia);cbv)|(refine Need.mk ?_ ?_;rotate_left;cbv))
  all_goals first
   | (clear ka hw hm3 hj3;lia)
   | (exfalso;clear ka hw hm3 hj3;lia)
   | (refine⟨⟨?_,?_⟩,?_⟩<;>clear ka hw hm3 hj3<;>first|lia|(show(_:Nat)<_;omega))
   | trace_state
 ·obtain rfl:i=P:=by omega
  have hb:byteAt S i=40:=by rw[hP];exact hpp
  clear hnp
  (repeat' first|(refine Named.at' z hz ?_;cbv)|(refine Named.at' H hH ?_;cbv)|(refine Named.at' D hD ?_;cbv)|(refine CallThen.mk _ _ (C.fn (kn)) ?_;cbv)|(refine CallThen.mk _ _ (C.fn (kd)) ?_;cbv)|(refine RetThen.mk [] [7680] ?_;cbv)|(refine Nm fun _ _=>?_;cbv)|(refine Br.t ?_ ?_;(focus first|assumption|lia);cbv)|(refine Need.mk ?_ ?_;rotate_left;cbv))
  all_goals first
   | exact⟨rfl,rfl,trivial⟩
   | (rename_i R eR;exact⟨.of_eq eR.symm,trivial⟩)
   | exact⟨.refl _,trivial⟩
   | (clear ka hw hm3 hj3;lia)
   | (exfalso;clear ka hw hm3 hj3;lia)
   | (simp at hsz;clear ka hw hm3 hj3;lia)
   | trace_state
set_option maxHeartbeats 4000000 in
theorem readC3 {S H D A:ByteArray} {p:Nat} {v w k1 n1:Int} {t1:ByteArray} {l1:List (List PV)} {q1:Bool} (h0:¬ S=ByteArray.empty) (hv:1≤v∧v≤300) (hs:S.size≤256) (hw:w=IntKind.i64.wrap (v-1))
  (hp:p<S.size) (hnp:∀ j:Nat,j<p→¬ byteAt S j=40) (hpp:byteAt S p=40)
  (hH:H=S.extract 0 p) (hD:D=S.extract p S.size) (hA:A=S.extract (p+1) (S.size-1)) (hsz:(true && true)=true→p+1≤S.size-1)
  (k43:Fn prog 116 [.str S,.int .u8 43] [] [.int .i64 (-1)] []) (k42:Fn prog 116 [.str S,.int .u8 42] [] [.int .i64 (-1)] [])
  (kw:Fn prog 117 [.str S] [] [.bool false] [])
  (kn:Fn prog 118 [.str H] [] [.bool true] [])
  (kd:Fn prog 117 [.str D] [] [.bool true] [])
  (ka:Fn prog 90 [.str A,.int .i64 w] [] [.agg [.int .i64 k1,.str t1,.int .i64 n1,.sl false 0 false 4 l1],.bool q1] []) :
  Fn prog 90 [.str S,.int .i64 v] [] [.agg [.int .i64 5,.str H,.int .i64 0,.sl false 0 false 4 [[.int .i64 k1,.str t1,.int .i64 n1,.sl false 0 false 4 l1]]],.bool q1] []:=by
 obtain⟨m,hm⟩:∃ m:Int,m=(S.size:Int)-1:=⟨_,rfl⟩
 obtain⟨z,hz⟩:∃ z:Int,z=S.size:=⟨_,rfl⟩
 have hm3:m=IntKind.i64.wrap (z-1):=by rw[hz,wrap64 (by omega)];exact hm
 obtain⟨P,hP⟩:∃ P:Int,P=p:=⟨_,rfl⟩
 have hP0:0≤P:=by rw[hP];exact Int.natCast_nonneg _
 have hnp:∀ i:Int,0≤i→i<P→¬ byteAt S i=40:=fun i a b=>by
  obtain⟨k,rfl⟩:=Int.eq_ofNat_of_zero_le a
  exact hnp k (Int.ofNat_lt.1 (by rw[hP] at b;exact b))
 obtain⟨j,hj⟩:∃ j:Int,j=P+1:=⟨_,rfl⟩
 have hj3:j=IntKind.i64.wrap (P+1):=by rw[wrap64 (by omega)];exact hj
 have hH:H=S.extract 0 P.toNat:=by rw[hH,hP,Int.toNat_natCast]
 have hD:D=S.extract P.toNat S.size:=by rw[hD,hP,Int.toNat_natCast]
 have hA:A=S.extract j.toNat m.toNat:=by rw[hA,show j.toNat=p+1 by omega,show m.toNat=S.size-1 by omega]
 obtain⟨i0,hi0⟩:∃ i:Int,i=0:=⟨_,rfl⟩
 refine go (fn:=Proofs.Tryz.f90) (n:=154) (rv:=[ResultVar.cell 4 103,ResultVar.tmp 5]) rfl (by decide) rfl (by decide +kernel) rfl rfl (by simp) fun F L C=>?_
 cbv
 (repeat' first|(refine CallThen.mk _ _ (C.fn (k43)) ?_;cbv)|(refine CallThen.mk _ _ (C.fn (k42)) ?_;cbv)|(refine CallThen.mk _ _ (C.fn (kw)) ?_;cbv)|(refine Br.t ?_ ?_;(focus first|assumption|lia);cbv)|(refine Br.f ?_ ?_;(focus first|assumption|lia);cbv))
 all_goals try(exfalso;clear ka hw hm3 hj3 hnp;lia)
 refine LoopThen.mk (C.loopAt (ι:=Int) [(12,12),(72,83)] (fun i=>[(12,.int .i64 i)]) (fun _=>[(384,.box [.int .i64 0,.str ByteArray.empty,.int .i64 0,.nils])])
  (fun i=>0≤i∧i≤P) (fun i=>(P-i).toNat) (by decide +kernel) (Start.mk i0 [] [] ⟨Int.le_of_eq hi0.symm,hi0 ▸ hP0⟩ ?_) ?_)
 ·cbv
  (repeat' apply And.intro)<;>first|exact True.intro|exact WkR.refl _|rfl|(clear hnp ka kw kn kd k43 k42 hw hm3 hj3;lia)|trace_state
 intro i g
 cbv
 have g1:0≤i:=g.1
 have g2:i≤P:=g.2
 clear g
 by_cases hi:i<P
 ·have hb:¬ byteAt S i=40:=hnp i g1 hi
  clear hnp
  (repeat' first|(refine Na ?_ fun _ _=>?_;(focus lia);cbv)|(apply Back.of (i:=(_:Int)) [] [];focus(cbv;exact⟨rfl,trivial⟩))|(refine Nm fun _ _=>?_;cbv)|(refine Br.t ?_ ?_;(focus first|assumption|lia);cbv)|(refine Br.f ?_ ?_;(focus first|assumption|lia);cbv)|(refine Need.mk ?_ ?_;rotate_left;cbv))
  all_goals first
   | (clear ka hw hm3 hj3;lia)
   | (exfalso;clear ka hw hm3 hj3;lia)
   | (refine⟨⟨?_,?_⟩,?_⟩<;>clear ka hw hm3 hj3<;>first|lia|(show(_:Nat)<_;omega))
   | trace_state
 ·obtain rfl:i=P:=by omega
  have hb:byteAt S i=40:=by rw[hP];exact hpp
  clear hnp
  (repeat' first|(refine Named.at' w hw ?_;cbv)|(refine Named.at' z hz ?_;cbv)|(refine Named.at' m hm3 ?_;cbv)|(refine Named.at' j hj3 ?_;cbv)|(refine Named.at' H hH ?_;cbv)|(refine Named.at' D hD ?_;cbv)|(refine Named.at' A hA ?_;cbv)|(refine CallThen.mk _ _ (C.fn (kn)) ?_;cbv)|(refine CallThen.mk _ _ (C.fn (kd)) ?_;cbv)|(refine CallThen.mk _ _ (C.fn (ka)) ?_;cbv)|(refine RetThen.mk [] [7680] ?_;cbv)|(refine Nl fun _ _ hq=>?_;(try simp only [lenS] at hq);cbv)|(refine Nm fun _ _=>?_;cbv)|(refine Br.t ?_ ?_;(focus first|assumption|lia);cbv)|(refine Need.mk ?_ ?_;rotate_left;cbv))
  all_goals first
   | exact⟨rfl,rfl,trivial⟩
   | (rename_i R eR;exact⟨.of_eq eR.symm,trivial⟩)
   | exact⟨.refl _,trivial⟩
   | (clear ka hw hm3 hj3;lia)
   | (exfalso;clear ka hw hm3 hj3;lia)
   | (simp at hsz;clear ka hw hm3 hj3;lia)
   | trace_state
end Go.Sym
