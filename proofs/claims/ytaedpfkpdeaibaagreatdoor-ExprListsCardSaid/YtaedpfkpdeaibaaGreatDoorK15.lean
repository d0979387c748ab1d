/- Values of expressions: calls on texts (walks). -/
import Derived.Test.YtaedpfkpdeaibaaGreatDoorK13
import Derived.Test.YtaedpfkpdeaibaaGreatDoorK14
set_option linter.all false
set_option linter.unusedVariables false
set_option linter.unusedSimpArgs false
namespace Go.Sym
open Go Go.Proofs.Tryz
set_option maxRecDepth 100000
def lowF (s:ByteArray) (i:Nat):ByteArray:=⟨((s.data.toList.take i).map lowC++s.data.toList.drop i).toArray⟩
theorem lowF_zero (s:ByteArray):lowF s 0=s:=by simp [lowF]
theorem lowF_all (s:ByteArray) {i:Nat} (h:s.data.toList.length≤i):lowF s i=lowS s:=by
 rw[lowF,lowS,List.take_of_length_le h,List.drop_of_length_le h,List.append_nil]
theorem lowF_rows (s:ByteArray) (i:Nat):byteRows (lowF s i)=((s.data.toList.take i).map lowC++s.data.toList.drop i).map fun b=>[PV.int .u8 b.toNat]:=by
 simp [byteRows,lowF]
theorem lowF_len (s:ByteArray) (i:Nat):(byteRows (lowF s i)).length=s.data.toList.length:=by
 rw[lowF_rows];simp;omega
theorem lowF_at {s:ByteArray} {i:Nat} {c:UInt8} (h:s.data.toList[i]?=some c):(byteRows (lowF s i))[i]?=some [.int .u8 (c.toNat:Int)]:=by
 have hi:=(List.getElem?_eq_some_iff.1 h).1
 rw[lowF_rows,List.getElem?_map,List.getElem?_append_right (by simp;omega)]
 simp only [List.length_map,List.length_take,Nat.min_eq_left (Nat.le_of_lt hi),Nat.sub_self,List.getElem?_drop,Nat.add_zero,h,Option.map_some]
theorem lowF_succ {s:ByteArray} {i:Nat} {c:UInt8} (h:s.data.toList[i]?=some c):byteRows (lowF s (i+1))=(byteRows (lowF s i)).set i [.int .u8 ((lowC c).toNat:Int)]:=by
 have hi:=(List.getElem?_eq_some_iff.1 h).1
 rw[lowF_rows,lowF_rows]
 apply List.ext_getElem?
 intro j
 rw[List.getElem?_set,List.getElem?_map,List.getElem?_map,List.getElem?_append,List.getElem?_append]
 simp only [List.length_map,List.length_take,Nat.min_eq_left (Nat.le_of_lt hi),Nat.min_eq_left (Nat.succ_le_of_lt hi),List.length_append,List.length_drop,List.getElem?_map,List.getElem?_take,List.getElem?_drop]
 by_cases e:i=j
 ·subst e
  rw[if_pos (by omega),if_pos rfl,if_pos (by omega),if_pos (by omega),h];rfl
 ·rw[if_neg e]
  by_cases hj:j<i
  ·rw[if_pos (by omega),if_pos hj,if_pos (by omega),if_pos hj]
  ·rw[if_neg (by omega),if_neg hj,show i+1+(j-(i+1))=i+(j-i) by omega]
theorem lowC_up {c:UInt8} (h:65≤c.toNat∧c.toNat≤90):((lowC c).toNat:Int)=(c.toNat:Int)+32:=by
 rw[lowC,if_pos h,UInt8.toNat_add]
 have:(32:UInt8).toNat=32:=rfl
 omega
theorem lowC_no {c:UInt8} (h:¬ (65≤c.toNat∧c.toNat≤90)):lowC c=c:=by rw[lowC,if_neg h]
theorem call_headT {k n x y:Int} {t S:ByteArray} (hS:S=headS t) (hk:k=2) (ht:t.size≤1000000):Fn prog 54 [.str bHead,.agg (⟨k,n,t,x,y⟩:Val).enc] [] [.agg (textV S).enc,.bool true] []:=by
  have k1:=text_fn Opq.id S
  have hm:t.size=0∨1≤t.size:=by omega
  have hS1:∀ q:Int,(q=if (t.size:Int)<1 then(t.size:Int) else 1)→S=t.extract 0 q.toNat:=fun q hq=>by
    rw[hS,headS]
    congr 1
    split at hq<;>omega
  clear hS
  refine go (fn:=Proofs.Tryz.f54) (n:=87) (rv:=[ResultVar.cell 4 37,ResultVar.tmp 5]) rfl (by decide) rfl (by decide +kernel) rfl rfl (by simp) fun F L C=>?_
  cbv
  (repeat' first|(refine Na ?_ fun _ _=>?_;(focus lia);cbv)|(refine Nl fun _ _ hq=>?_;(try simp only [lenS] at hq);cbv)|(refine Nm fun _ _=>?_;cbv)|(refine Br.t ?_ ?_;(focus first|assumption|lia);cbv)|(refine Br.f ?_ ?_;(focus first|assumption|lia);cbv)|(refine Br.mk (fun _=>?_) (fun _=>?_)<;>cbv)|(refine Need.mk ?_ ?_;rotate_left;cbv)|(refine R0 ?_;cbv))
  all_goals try
    (rename_i q1 h1 q2 h2
     refine⟨by decide,?_,?_⟩<;>(clear hS1 k1;rw[h2];split<;>lia))
  all_goals
    rename_i q1 h1 q2 h2 w hw
    obtain rfl:w=S:=by rw[hw];exact(hS1 q2 (by rw[h2,h1])).symm
    clear hS1 hm hw h2 h1
    (repeat' first|(refine Na ?_ fun _ _=>?_;(focus lia);cbv)|(refine CallThen.mk _ _ (C.fn (k1)) ?_;cbv)|(refine Nl fun _ _ hq=>?_;(try simp only [lenS] at hq);cbv)|(refine Nm fun _ _=>?_;cbv)|(refine Br.t ?_ ?_;(focus first|assumption|lia);cbv)|(refine Br.f ?_ ?_;(focus first|assumption|lia);cbv)|(refine Br.mk (fun _=>?_) (fun _=>?_)<;>cbv)|(refine Need.mk ?_ ?_;rotate_left;cbv)|(refine R0 ?_;cbv))
    all_goals first
      | exact⟨rfl,rfl,trivial⟩
      | (exfalso;clear k1;lia)
      | trace_state
theorem call_headF {k n x y:Int} {t S:ByteArray} (hS:S=headS t) (hk:¬ k=2) (ht:t.size≤1000000):Fn prog 54 [.str bHead,.agg (⟨k,n,t,x,y⟩:Val).enc] [] [.agg (textV S).enc,.bool false] []:=by
  have k1:=text_fn Opq.id S
  have hm:t.size=0∨1≤t.size:=by omega
  have hS1:∀ q:Int,(q=if (t.size:Int)<1 then(t.size:Int) else 1)→S=t.extract 0 q.toNat:=fun q hq=>by
    rw[hS,headS]
    congr 1
    split at hq<;>omega
  clear hS
  refine go (fn:=Proofs.Tryz.f54) (n:=87) (rv:=[ResultVar.cell 4 37,ResultVar.tmp 5]) rfl (by decide) rfl (by decide +kernel) rfl rfl (by simp) fun F L C=>?_
  cbv
  (repeat' first|(refine Na ?_ fun _ _=>?_;(focus lia);cbv)|(refine Nl fun _ _ hq=>?_;(try simp only [lenS] at hq);cbv)|(refine Nm fun _ _=>?_;cbv)|(refine Br.t ?_ ?_;(focus first|assumption|lia);cbv)|(refine Br.f ?_ ?_;(focus first|assumption|lia);cbv)|(refine Br.mk (fun _=>?_) (fun _=>?_)<;>cbv)|(refine Need.mk ?_ ?_;rotate_left;cbv)|(refine R0 ?_;cbv))
  all_goals try
    (rename_i q1 h1 q2 h2
     refine⟨by decide,?_,?_⟩<;>(clear hS1 k1;rw[h2];split<;>lia))
  all_goals
    rename_i q1 h1 q2 h2 w hw
    obtain rfl:w=S:=by rw[hw];exact(hS1 q2 (by rw[h2,h1])).symm
    clear hS1 hm hw h2 h1
    (repeat' first|(refine Na ?_ fun _ _=>?_;(focus lia);cbv)|(refine CallThen.mk _ _ (C.fn (k1)) ?_;cbv)|(refine Nl fun _ _ hq=>?_;(try simp only [lenS] at hq);cbv)|(refine Nm fun _ _=>?_;cbv)|(refine Br.t ?_ ?_;(focus first|assumption|lia);cbv)|(refine Br.f ?_ ?_;(focus first|assumption|lia);cbv)|(refine Br.mk (fun _=>?_) (fun _=>?_)<;>cbv)|(refine Need.mk ?_ ?_;rotate_left;cbv)|(refine R0 ?_;cbv))
    all_goals first
      | exact⟨rfl,rfl,trivial⟩
      | (exfalso;clear k1;lia)
      | trace_state
theorem u8_sub {c:Int} (h:65≤c∧c≤90):IntKind.u8.wrap (c-65)=c-65:=by unfold IntKind.wrap;simp [IntKind.bits,IntKind.signed];omega
theorem u8_add {c:Int} (h:0≤c∧c≤25):IntKind.u8.wrap (c+97)=c+97:=by unfold IntKind.wrap;simp [IntKind.bits,IntKind.signed];omega
theorem set_self {R:List (List PV)} {i:Nat} {x:List PV} (h:R[i]?=some x):R.set i x=R:=by
 obtain⟨hk,rfl⟩:=List.getElem?_eq_some_iff.1 h
 exact List.set_getElem_self _
theorem call_lowT {k n x y:Int} {t S:ByteArray} (hS:S=lowS t) (hk:k=2) (ht:t.size≤1000000):Fn prog 54 [.str bLow,.agg (⟨k,n,t,x,y⟩:Val).enc] [] [.agg (textV S).enc,.bool true] []:=by
 have k1:=text_fn Opq.id S
 obtain⟨N,hN⟩:∃ N:Nat,N=t.data.toList.length:=⟨_,rfl⟩
 have hNs:t.size=N:=by rw[hN,size_list]
 obtain⟨R,hR⟩:∃ R:Nat→List (List PV),R=fun i=>byteRows (lowF t i):=⟨_,rfl⟩
 have hlen:∀ i,(R i).length=N:=fun i=>by rw[hR,hN];exact lowF_len t i
 obtain⟨V,hV⟩:∃ V:UInt8→Int,V=fun c=>(c.toNat:Int):=⟨_,rfl⟩
 have hVb:∀ c,0≤V c∧V c<256:=fun c=>by rw[hV];have:=c.toNat_lt;exact⟨by simp only;omega,by simp only;omega⟩
 have hVu:∀ c,65≤V c∧V c≤90→V (lowC c)=V c+32:=fun c h=>by rw[hV] at h ⊢;exact lowC_up (by simp only at h;omega)
 have hVn:∀ c,¬ (65≤V c∧V c≤90)→V (lowC c)=V c:=fun c h=>by rw[hV] at h ⊢;rw[lowC_no (by simp only at h;omega)]
 have hat:∀ (i:Nat) c,t.data.toList[i]?=some c→(R i)[i]?=some [.int .u8 (V c)]:=fun i c h=>by rw[hR,hV];exact lowF_at h
 have hsuc:∀ (i:Nat) c,t.data.toList[i]?=some c→R (i+1)=(R i).set i [.int .u8 (V (lowC c))]:=fun i c h=>by rw[hR,hV];exact lowF_succ h
 have hend:∀ i,N≤i→R i=byteRows S:=fun i h=>by rw[hR,hS];show byteRows (lowF t i)=_;rw[lowF_all t (by omega)]
 obtain⟨z,hz⟩:∃ z:Nat,z=0:=⟨_,rfl⟩
 have h0:R z=byteRows t:=by rw[hR,hz];show byteRows (lowF t 0)=_;rw[lowF_zero]
 have hlz:=hlen z
 clear hR hS hV
 refine go (fn:=Proofs.Tryz.f54) (n:=87) (rv:=[ResultVar.cell 4 37,ResultVar.tmp 5]) rfl (by decide) rfl (by decide +kernel) rfl rfl (by simp) fun F L C=>?_
 cbv
 (repeat' first|(refine Named.atG (R z) h0 ?_;cbv)|(refine Na ?_ fun _ _=>?_;(focus lia);cbv)|(refine Nl fun _ _ hq=>?_;(try simp only [lenS] at hq);cbv)|(refine Nm fun _ _=>?_;cbv)|(refine Br.t ?_ ?_;(focus first|assumption|lia);cbv)|(refine Br.f ?_ ?_;(focus first|assumption|lia);cbv)|(refine Br.mk (fun _=>?_) (fun _=>?_)<;>cbv)|(refine Need.mk ?_ ?_;rotate_left;cbv)|(refine R0 ?_;cbv))
 all_goals try
  (clear hend hsuc hat hlen k1 h0 hVb hVu hVn;omega)
 rename_i Z hZ
 have hZ2:Z=(N:Int):=by rw[hZ,hlz]
 clear hZ h0 hlz
 refine LoopThen.mk (C.loopAt (ι:=Nat) [(9,10),(54,71)] (fun i=>[(53,.int .i64 N),(54,.int .i64 i)]) (fun i=>[(320,.box [.int .i64 k,.int .i64 n,.str t,.int .i64 x,.int .i64 y]),(384,.box [.int .i64 0,.int .i64 0,.str ByteArray.empty,.int .i64 0,.int .i64 0]),(3392,.arr 1 none 1 (R i))])
  (fun i=>i≤N) (fun i=>N-i) (by decide +kernel) (Start.mk z [] [] (show z≤N by omega) ?_) ?_)
 ·clear hend hsuc hat hlen k1
  cbv
  (repeat' apply And.intro)<;>first|exact True.intro|exact WkR.refl _|rfl|exact hZ2.symm|(clear hVb hVu hVn hZ2;lia)|trace_state
 intro i g
 cbv
 have g1:i≤N:=g
 clear g hZ2
 have hl:=hlen i
 by_cases hi:i<N
 ·obtain⟨c,hc⟩:∃ c,t.data.toList[i]?=some c:=⟨t.data.toList[i]'(by omega),List.getElem?_eq_getElem (by omega)⟩
  have ha:=hat i c hc
  have hs:=hsuc i c hc
  have hcb:=hVb c
  have hcu:=hVu c
  have hcn:=hVn c
  obtain⟨C0,hC0⟩:∃ C0,C0=V c:=⟨_,rfl⟩
  rw[← hC0] at hcb hcu hcn ha
  clear hat hsuc hend hlen k1 hVb hVu hVn hC0 hc
  by_cases hu:65≤C0∧C0≤90
  ·rw[hcu hu] at hs
   obtain⟨D,hD⟩:∃ D,D=C0-65:=⟨_,rfl⟩
   obtain⟨E,hE⟩:∃ E,E=C0+32:=⟨_,rfl⟩
   have hD2:D=IntKind.u8.wrap (C0-65):=by rw[u8_sub hu];exact hD
   have hE2:E=IntKind.u8.wrap (D+97):=by rw[u8_add (by omega)];omega
   rw[← hE] at hs
   clear hcu hcn
   (repeat' first|(refine Named.atG i rfl ?_;cbv)|(refine Named.atG D hD2 ?_;cbv)|(refine Named.atG E hE2 ?_;cbv)|(refine Na ?_ fun _ _=>?_;(focus lia);cbv)|(refine Ex.mk [.int .u8 C0] ⟨by clear ha hs hD2 hE2;lia,ha⟩ ?_;cbv)|(refine Back.up [] [] ?_ ?_ fun _ _=>?_;rotate_left 2;cbv;refine And.intro ?_ ?_)|(refine Nl fun _ _ hq=>?_;(try simp only [lenS] at hq);cbv)|(refine Nm fun _ _=>?_;cbv)|(refine Br.t ?_ ?_;(focus first|assumption|lia);cbv)|(refine Br.f ?_ ?_;(focus first|assumption|lia);cbv)|(refine Br.mk (fun _=>?_) (fun _=>?_)<;>cbv)|(refine Need.mk ?_ ?_;rotate_left;cbv)|(refine R0 ?_;cbv))
   all_goals(repeat' apply And.intro)
   all_goals try first
    | exact True.intro
    | exact WkR.refl _
    | rfl
    | (clear ha hs hD2 hE2;lia)
   all_goals
    rename_i q hq1 _ _ k' hk'
    rw[hk',hq1]
    exact WkR.of_eq hs
  ·rw[hcn hu] at hs
   have hse:R (i+1)=R i:=by rw[hs];exact set_self ha
   clear hs hcu hcn
   (repeat' first|(refine Named.atG i rfl ?_;cbv)|(refine Na ?_ fun _ _=>?_;(focus lia);cbv)|(refine Ex.mk [.int .u8 C0] ⟨by clear ha hse;lia,ha⟩ ?_;cbv)|(refine Back.up [] [] ?_ ?_ fun _ _=>?_;rotate_left 2;cbv;refine And.intro ?_ ?_)|(refine Nl fun _ _ hq=>?_;(try simp only [lenS] at hq);cbv)|(refine Nm fun _ _=>?_;cbv)|(refine Br.t ?_ ?_;(focus first|assumption|lia);cbv)|(refine Br.f ?_ ?_;(focus first|assumption|lia);cbv)|(refine Br.mk (fun _=>?_) (fun _=>?_)<;>cbv)|(refine Need.mk ?_ ?_;rotate_left;cbv)|(refine R0 ?_;cbv))
   all_goals(repeat' apply And.intro)
   all_goals try first
    | exact True.intro
    | exact WkR.refl _
    | rfl
    | (clear ha hse;lia)
   all_goals first
    | (rename_i k' hk';exact WkR.of_eq (by rw[hk',hse]))
    | trace_state
 ·have he:=hend i (by omega)
  clear hat hsuc hend hlen hVb hVu hVn
  (repeat' first|(refine Na ?_ fun _ _=>?_;(focus lia);cbv)|(refine Ex.mk S he ?_;cbv)|(refine CallThen.mk _ _ (C.fn (k1)) ?_;cbv)|(refine Nl fun _ _ hq=>?_;(try simp only [lenS] at hq);cbv)|(refine Nm fun _ _=>?_;cbv)|(refine Br.t ?_ ?_;(focus first|assumption|lia);cbv)|(refine Br.f ?_ ?_;(focus first|assumption|lia);cbv)|(refine Br.mk (fun _=>?_) (fun _=>?_)<;>cbv)|(refine Need.mk ?_ ?_;rotate_left;cbv)|(refine R0 ?_;cbv))
  all_goals first
   | exact⟨rfl,rfl,trivial⟩
   | exact⟨rfl,trivial⟩
   | (exfalso;clear he k1;lia)
   | trace_state
theorem call_lowF {k n x y:Int} {t S:ByteArray} (hS:S=lowS t) (hk:¬ k=2) (ht:t.size≤1000000):Fn prog 54 [.str bLow,.agg (⟨k,n,t,x,y⟩:Val).enc] [] [.agg (textV S).enc,.bool false] []:=by
 have k1:=text_fn Opq.id S
 obtain⟨N,hN⟩:∃ N:Nat,N=t.data.toList.length:=⟨_,rfl⟩
 have hNs:t.size=N:=by rw[hN,size_list]
 obtain⟨R,hR⟩:∃ R:Nat→List (List PV),R=fun i=>byteRows (lowF t i):=⟨_,rfl⟩
 have hlen:∀ i,(R i).length=N:=fun i=>by rw[hR,hN];exact lowF_len t i
 obtain⟨V,hV⟩:∃ V:UInt8→Int,V=fun c=>(c.toNat:Int):=⟨_,rfl⟩
 have hVb:∀ c,0≤V c∧V c<256:=fun c=>by rw[hV];have:=c.toNat_lt;exact⟨by simp only;omega,by simp only;omega⟩
 have hVu:∀ c,65≤V c∧V c≤90→V (lowC c)=V c+32:=fun c h=>by rw[hV] at h ⊢;exact lowC_up (by simp only at h;omega)
 have hVn:∀ c,¬ (65≤V c∧V c≤90)→V (lowC c)=V c:=fun c h=>by rw[hV] at h ⊢;rw[lowC_no (by simp only at h;omega)]
 have hat:∀ (i:Nat) c,t.data.toList[i]?=some c→(R i)[i]?=some [.int .u8 (V c)]:=fun i c h=>by rw[hR,hV];exact lowF_at h
 have hsuc:∀ (i:Nat) c,t.data.toList[i]?=some c→R (i+1)=(R i).set i [.int .u8 (V (lowC c))]:=fun i c h=>by rw[hR,hV];exact lowF_succ h
 have hend:∀ i,N≤i→R i=byteRows S:=fun i h=>by rw[hR,hS];show byteRows (lowF t i)=_;rw[lowF_all t (by omega)]
 obtain⟨z,hz⟩:∃ z:Nat,z=0:=⟨_,rfl⟩
 have h0:R z=byteRows t:=by rw[hR,hz];show byteRows (lowF t 0)=_;rw[lowF_zero]
 have hlz:=hlen z
 clear hR hS hV
 refine go (fn:=Proofs.Tryz.f54) (n:=87) (rv:=[ResultVar.cell 4 37,ResultVar.tmp 5]) rfl (by decide) rfl (by decide +kernel) rfl rfl (by simp) fun F L C=>?_
 cbv
 (repeat' first|(refine Named.atG (R z) h0 ?_;cbv)|(refine Na ?_ fun _ _=>?_;(focus lia);cbv)|(refine Nl fun _ _ hq=>?_;(try simp only [lenS] at hq);cbv)|(refine Nm fun _ _=>?_;cbv)|(refine Br.t ?_ ?_;(focus first|assumption|lia);cbv)|(refine Br.f ?_ ?_;(focus first|assumption|lia);cbv)|(refine Br.mk (fun _=>?_) (fun _=>?_)<;>cbv)|(refine Need.mk ?_ ?_;rotate_left;cbv)|(refine R0 ?_;cbv))
 all_goals try
  (clear hend hsuc hat hlen k1 h0 hVb hVu hVn;omega)
 rename_i Z hZ
 have hZ2:Z=(N:Int):=by rw[hZ,hlz]
 clear hZ h0 hlz
 refine LoopThen.mk (C.loopAt (ι:=Nat) [(9,10),(54,71)] (fun i=>[(53,.int .i64 N),(54,.int .i64 i)]) (fun i=>[(320,.box [.int .i64 k,.int .i64 n,.str t,.int .i64 x,.int .i64 y]),(384,.box [.int .i64 0,.int .i64 0,.str ByteArray.empty,.int .i64 0,.int .i64 0]),(3392,.arr 1 none 1 (R i))])
  (fun i=>i≤N) (fun i=>N-i) (by decide +kernel) (Start.mk z [] [] (show z≤N by omega) ?_) ?_)
 ·clear hend hsuc hat hlen k1
  cbv
  (repeat' apply And.intro)<;>first|exact True.intro|exact WkR.refl _|rfl|exact hZ2.symm|(clear hVb hVu hVn hZ2;lia)|trace_state
 intro i g
 cbv
 have g1:i≤N:=g
 clear g hZ2
 have hl:=hlen i
 by_cases hi:i<N
 ·obtain⟨c,hc⟩:∃ c,t.data.toList[i]?=some c:=⟨t.data.toList[i]'(by omega),List.getElem?_eq_getElem (by omega)⟩
  have ha:=hat i c hc
  have hs:=hsuc i c hc
  have hcb:=hVb c
  have hcu:=hVu c
  have hcn:=hVn c
  obtain⟨C0,hC0⟩:∃ C0,C0=V c:=⟨_,rfl⟩
  rw[← hC0] at hcb hcu hcn ha
  clear hat hsuc hend hlen k1 hVb hVu hVn hC0 hc
  by_cases hu:65≤C0∧C0≤90
  ·rw[hcu hu] at hs
   obtain⟨D,hD⟩:∃ D,D=C0-65:=⟨_,rfl⟩
   obtain⟨E,hE⟩:∃ E,E=C0+32:=⟨_,rfl⟩
   have hD2:D=IntKind.u8.wrap (C0-65):=by rw[u8_sub hu];exact hD
   have hE2:E=IntKind.u8.wrap (D+97):=by rw[u8_add (by omega)];omega
   rw[← hE] at hs
   clear hcu hcn
   (repeat' first|(refine Named.atG i rfl ?_;cbv)|(refine Named.atG D hD2 ?_;cbv)|(refine Named.atG E hE2 ?_;cbv)|(refine Na ?_ fun _ _=>?_;(focus lia);cbv)|(refine Ex.mk [.int .u8 C0] ⟨by clear ha hs hD2 hE2;lia,ha⟩ ?_;cbv)|(refine Back.up [] [] ?_ ?_ fun _ _=>?_;rotate_left 2;cbv;refine And.intro ?_ ?_)|(refine Nl fun _ _ hq=>?_;(try simp only [lenS] at hq);cbv)|(refine Nm fun _ _=>?_;cbv)|(refine Br.t ?_ ?_;(focus first|assumption|lia);cbv)|(refine Br.f ?_ ?_;(focus first|assumption|lia);cbv)|(refine Br.mk (fun _=>?_) (fun _=>?_)<;>cbv)|(refine Need.mk ?_ ?_;rotate_left;cbv)|(refine R0 ?_;cbv))
   all_goals(repeat' apply And.intro)
   all_goals try first
    | exact True.intro
    | exact WkR.refl _
    | rfl
    | (clear ha hs hD2 hE2;lia)
   all_goals
    rename_i q hq1 _ _ k' hk'
    rw[hk',hq1]
    exact WkR.of_eq hs
  ·rw[hcn hu] at hs
   have hse:R (i+1)=R i:=by rw[hs];exact set_self ha
   clear hs hcu hcn
   (repeat' first|(refine Named.atG i rfl ?_;cbv)|(refine Na ?_ fun _ _=>?_;(focus lia);cbv)|(refine Ex.mk [.int .u8 C0] ⟨by clear ha hse;lia,ha⟩ ?_;cbv)|(refine Back.up [] [] ?_ ?_ fun _ _=>?_;rotate_left 2;cbv;refine And.intro ?_ ?_)|(refine Nl fun _ _ hq=>?_;(try simp only [lenS] at hq);cbv)|(refine Nm fun _ _=>?_;cbv)|(refine Br.t ?_ ?_;(focus first|assumption|lia);cbv)|(refine Br.f ?_ ?_;(focus first|assumption|lia);cbv)|(refine Br.mk (fun _=>?_) (fun _=>?_)<;>cbv)|(refine Need.mk ?_ ?_;rotate_left;cbv)|(refine R0 ?_;cbv))
   all_goals(repeat' apply And.intro)
   all_goals try first
    | exact True.intro
    | exact WkR.refl _
    | rfl
    | (clear ha hse;lia)
   all_goals first
    | (rename_i k' hk';exact WkR.of_eq (by rw[hk',hse]))
    | trace_state
 ·have he:=hend i (by omega)
  clear hat hsuc hend hlen hVb hVu hVn
  (repeat' first|(refine Na ?_ fun _ _=>?_;(focus lia);cbv)|(refine Ex.mk S he ?_;cbv)|(refine CallThen.mk _ _ (C.fn (k1)) ?_;cbv)|(refine Nl fun _ _ hq=>?_;(try simp only [lenS] at hq);cbv)|(refine Nm fun _ _=>?_;cbv)|(refine Br.t ?_ ?_;(focus first|assumption|lia);cbv)|(refine Br.f ?_ ?_;(focus first|assumption|lia);cbv)|(refine Br.mk (fun _=>?_) (fun _=>?_)<;>cbv)|(refine Need.mk ?_ ?_;rotate_left;cbv)|(refine R0 ?_;cbv))
  all_goals first
   | exact⟨rfl,rfl,trivial⟩
   | exact⟨rfl,trivial⟩
   | (exfalso;clear he k1;lia)
   | trace_state
theorem countX_fnC (O:Opq) (s:ByteArray) (c:Int) (hc:c=44):Fn prog 58 [.str s,.int .u8 c] [] [.int .i64 (O.o cntC s)] []:=by
 subst hc
 refine .inr ⟨rfl,fun k us _ _ h=>⟨.int .i64 (cntC s),?_,by rw[O.h];exact .plain (.int _ _)⟩⟩
 obtain rfl:=repL_vals (vs:=[.string s,.int .u8 44]) h (fun i x u p q=>by
  match i,p with
  | 0,p=>simp at p;subst p;have:=(h.2 0 _ u rfl q).str_inv;simp [this]
  | 1,p=>simp at p;subst p;have:=(h.2 1 _ u rfl q).int_inv;simp [this]) rfl
 rw[run_callFunc_extern (fn:=Proofs.Tryz.f58) rfl (by decide) (by rfl) (by kernel_rfl) (e:=Extern.BytealgCount.count) (by kernel_rfl),Lib.run_countString]
 rfl
theorem indexX_fnC (O:Opq) (s:ByteArray) (c:Int) (hc:c=44):Fn prog 127 [.str s,.int .u8 c] [] [.int .i64 (O.o idxC s)] []:=by
 subst hc
 refine .inr ⟨rfl,fun k us _ _ h=>⟨.int .i64 (idxC s),?_,by rw[O.h];exact .plain (.int _ _)⟩⟩
 obtain rfl:=repL_vals (vs:=[.string s,.int .u8 44]) h (fun i x u p q=>by
  match i,p with
  | 0,p=>simp at p;subst p;have:=(h.2 0 _ u rfl q).str_inv;simp [this]
  | 1,p=>simp at p;subst p;have:=(h.2 1 _ u rfl q).int_inv;simp [this]) rfl
 rw[run_callFunc_extern (fn:=Proofs.Tryz.f127) rfl (by decide) (by rfl) (by kernel_rfl) (e:=Extern.BytealgIndexByte.indexByte) (by kernel_rfl),Lib.run_indexByteString]
 rfl
theorem indexByte_fnC (O:Opq) (s:ByteArray) (c:Int) (hc:c=44):Fn prog 113 [.str s,.int .u8 c] [] [.int .i64 (O.o idxC s)] []:=by
 refine go (fn:=Proofs.Tryz.f113) (n:=6) (rv:=[ResultVar.tmp 4]) rfl (by decide) rfl (by decide +kernel) rfl rfl (by simp) fun F L C=>?_
 cbv
 (repeat' first|(refine Na ?_ fun _ _=>?_;(focus lia);cbv)|(refine CallThen.mk _ _ (C.fn (indexX_fnC O _ _ hc)) ?_;cbv)|(refine Nl fun _ _ hq=>?_;(try simp only [lenS] at hq);cbv)|(refine Nm fun _ _=>?_;cbv)|(refine Br.t ?_ ?_;(focus first|assumption|lia);cbv)|(refine Br.f ?_ ?_;(focus first|assumption|lia);cbv)|(refine Br.mk (fun _=>?_) (fun _=>?_)<;>cbv)|(refine Need.mk ?_ ?_;rotate_left;cbv)|(refine R0 ?_;cbv))
theorem slIndex_fnC (O:Opq) (s sep:ByteArray) (hd:sep=comma):Fn prog 89 [.str s,.str sep] [] [.int .i64 (O.o idxC s)] []:=by
 have h1:sep.size=1:=by rw[hd];rfl
 have h2:byteAt sep 0=44:=by rw[hd];rfl
 have h3:sep=s→idxC s=0:=by rw[hd];rintro rfl;rfl
 clear hd
 refine go (fn:=Proofs.Tryz.f89) (n:=141) (rv:=[ResultVar.tmp 4]) rfl (by decide) rfl (by decide +kernel) rfl rfl (by simp) fun F L C=>?_
 cbv
 (repeat' first|(refine Na ?_ fun _ _=>?_;(focus lia);cbv)|(refine CallThen.mk _ _ (C.fn (indexByte_fnC O _ _ (by lia))) ?_;cbv)|(refine Nl fun _ _ hq=>?_;(try simp only [lenS] at hq);cbv)|(refine Nm fun _ _=>?_;cbv)|(refine Br.t ?_ ?_;(focus first|assumption|lia);cbv)|(refine Br.f ?_ ?_;(focus first|assumption|lia);cbv)|(refine Br.mk (fun _=>?_) (fun _=>?_)<;>cbv)|(refine Need.mk ?_ ?_;rotate_left;cbv)|(refine R0 ?_;cbv))
 all_goals first|(simp only [O.h];exact⟨h3 (by assumption),trivial⟩)|lia
theorem index_fnC (O:Opq) (s sep:ByteArray) (hd:sep=comma):Fn prog 59 [.str s,.str sep] [] [.int .i64 (O.o idxC s)] []:=by
 refine go (fn:=Proofs.Tryz.f59) (n:=6) (rv:=[ResultVar.tmp 4]) rfl (by decide) rfl (by decide +kernel) rfl rfl (by simp) fun F L C=>?_
 cbv
 (repeat' first|(refine Na ?_ fun _ _=>?_;(focus lia);cbv)|(refine CallThen.mk _ _ (C.fn (slIndex_fnC O _ _ hd)) ?_;cbv)|(refine Nl fun _ _ hq=>?_;(try simp only [lenS] at hq);cbv)|(refine Nm fun _ _=>?_;cbv)|(refine Br.t ?_ ?_;(focus first|assumption|lia);cbv)|(refine Br.f ?_ ?_;(focus first|assumption|lia);cbv)|(refine Br.mk (fun _=>?_) (fun _=>?_)<;>cbv)|(refine Need.mk ?_ ?_;rotate_left;cbv)|(refine R0 ?_;cbv))
theorem count_fnC (O:Opq) (s sep:ByteArray) (hd:sep=comma):Fn prog 34 [.str s,.str sep] [] [.int .i64 (O.o cntC s)] []:=by
 have h1:sep.size=1:=by rw[hd];rfl
 have h2:byteAt sep 0=44:=by rw[hd];rfl
 clear hd
 refine go (fn:=Proofs.Tryz.f34) (n:=32) (rv:=[ResultVar.tmp 4]) rfl (by decide) rfl (by decide +kernel) rfl rfl (by simp) fun F L C=>?_
 cbv
 (repeat' first|(refine Na ?_ fun _ _=>?_;(focus lia);cbv)|(refine CallThen.mk _ _ (C.fn (countX_fnC O _ _ (by lia))) ?_;cbv)|(refine Nl fun _ _ hq=>?_;(try simp only [lenS] at hq);cbv)|(refine Nm fun _ _=>?_;cbv)|(refine Br.t ?_ ?_;(focus first|assumption|lia);cbv)|(refine Br.f ?_ ?_;(focus first|assumption|lia);cbv)|(refine Br.mk (fun _=>?_) (fun _=>?_)<;>cbv)|(refine Need.mk ?_ ?_;rotate_left;cbv)|(refine R0 ?_;cbv))
 all_goals lia
structure CutC where
 done:List ByteArray
 cur:ByteArray
def CutC.rows (n:Nat) (x:CutC):List (List PV):=Strs x.done++List.replicate (n-x.done.length) [.str ByteArray.empty]
def CutC.i (x:CutC):Int:=x.done.length
def CutC.next (x:CutC):CutC:=⟨x.done++[x.cur.extract 0 (idxC x.cur).toNat],x.cur.extract ((idxC x.cur).toNat+1) x.cur.size⟩
theorem CutC.rows_len (n:Nat) (x:CutC) (h:x.done.length≤n):(CutC.rows n x).length=n:=by
 rw[CutC.rows,List.length_append,Strs_len,List.length_replicate];omega
theorem CutC.rows_at (n:Nat) (x:CutC) (h:x.done.length<n):(CutC.rows n x)[x.done.length]?=some [.str ByteArray.empty]:=by
 rw[CutC.rows,List.getElem?_append_right (by simp [Strs]),Strs_len,Nat.sub_self,List.getElem?_replicate,if_pos (by omega)]
theorem CutC.rows_set (n:Nat) (x:CutC) (h:x.done.length<n) (t:ByteArray):(CutC.rows n x).set x.done.length [.str t]=Strs (x.done++[t])++List.replicate (n-(x.done.length+1)) [.str ByteArray.empty]:=by
 rw[CutC.rows,List.set_append_right _ _ (by simp [Strs])]
 simp only [Strs,List.length_map,Nat.sub_self,List.map_append,List.map_cons,List.map_nil,List.append_assoc]
 rw[show n-x.done.length=(n-(x.done.length+1))+1 by omega,List.replicate_succ]
 simp
theorem genSplit_fnC (O:Opq) (s sep:ByteArray) (hd:sep=comma) (hs:s.size≤1099511627776):Fn prog 60 [.str s,.str sep,.int .i64 0,.int .i64 (-1)] [] [.sl false 0 false 1 (O.o Strs (O.o piecesC s))] []:=by
 have h1:sep.size=1:=by rw[hd];rfl
 have hemp:¬ sep=ByteArray.empty:=by rw[hd];decide
 have hc:=cnt_leC s
 have e0:O.o cntC s=cntC s:=congrFun (O.h cntC) s
 obtain⟨N,hN⟩:∃ N:Nat,(N:Int)=cntC s+1:=⟨(cntC s+1).toNat,by omega⟩
 refine go (fn:=Proofs.Tryz.f60) (n:=62) (rv:=[ResultVar.tmp 8]) rfl (by decide) rfl (by decide +kernel) rfl rfl (by simp) fun F L C=>?_
 cbv
 (repeat' first|(refine Na ?_ fun _ _=>?_;(focus lia);cbv)|(refine CallThen.mk _ _ (C.fn (count_fnC O _ _ hd)) ?_;cbv)|(refine Nl fun _ _ hq=>?_;(try simp only [lenS] at hq);cbv)|(refine Nm fun _ _=>?_;cbv)|(refine Br.t ?_ ?_;(focus first|assumption|lia);cbv)|(refine Br.f ?_ ?_;(focus first|assumption|lia);cbv)|(refine Br.mk (fun _=>?_) (fun _=>?_)<;>cbv)|(refine Need.mk ?_ ?_;rotate_left;cbv)|(refine R0 ?_;cbv))
 ·rename_i n1 e1 n2 e2 n3 e3 n4 e4 r5 e5 n6 e6
  clear hq
  have q4:n4=cntC s+1:=by rw[e4];split<;>lia
  have e6:n6=cntC s:=by lia
  rw[show n4.toNat=N by lia] at e5
  subst e5
  clear e1 e2 e3 e4 q4
  refine LoopThen.mk (C.loopAt (ι:=CutC) [(0,0),(10,11),(34,57)] (fun x=>[(0,.str x.cur),(10,.int .i64 (O.o CutC.i x))]) (fun x=>[(2112,.arr 1 none 1 (O.o (CutC.rows N) x))])
   (fun x=>piecesC s=x.done++piecesC x.cur∧cntC x.cur=cntC s-x.done.length∧x.cur.size≤s.size) (fun x=>(cntC s).toNat-x.done.length) (by decide +kernel) (Start.mk ⟨[],s⟩ [] [] (by simp) ?_) ?_)
  ·obtain⟨z,hz⟩:∃ z:CutC,z=⟨[],s⟩:=⟨_,rfl⟩
   rw[← hz]
   generalize hr:List.replicate N _=r
   cbv
   subst hz hr
   refine⟨WkR.of_eq ?_,rfl,?_⟩
   ·simp only [O.h,CutC.rows,Strs,List.map_nil,List.length_nil,List.nil_append,Nat.sub_zero];rfl
   ·simp [O.h,CutC.i]
  intro x
  obtain⟨ci,eci⟩:∃ ci,ci=O.o CutC.i x:=⟨_,rfl⟩
  obtain⟨cr,ecr⟩:∃ cr,cr=O.o (CutC.rows N) x:=⟨_,rfl⟩
  rw[← eci,← ecr]
  rw[O.h] at eci ecr
  rintro ⟨i1,i2,i3⟩
  simp only [CutC.i] at eci
  have hlen:=CutC.rows_len N x
  rw[← ecr] at hlen
  have hcur:=cnt_leC x.cur
  have hpos:0<cntC x.cur→_:=cnt_posC
  have hix:O.o idxC x.cur=idxC x.cur:=congrFun (O.h idxC) x.cur
  cbv
  (repeat' first|(refine Na ?_ fun _ _=>?_;(focus lia);cbv)|(refine CallThen.mk _ _ (C.fn (index_fnC O _ _ hd)) ?_;cbv)|(refine Ex.mk [.str ByteArray.empty] ?_ ?_;rotate_left;cbv)|(refine RetThen.mk [] [2112] ?_;cbv)|(refine Back.to (CutC.next x) [] [] ?_ fun _ _=>?_;rotate_left;cbv)|(refine Nl fun _ _ hq=>?_;(try simp only [lenS] at hq);cbv)|(refine Nm fun _ _=>?_;cbv)|(refine Br.t ?_ ?_;(focus first|assumption|lia);cbv)|(refine Br.f ?_ ?_;(focus first|assumption|lia);cbv)|(refine Br.mk (fun _=>?_) (fun _=>?_)<;>cbv)|(refine Need.mk ?_ ?_;rotate_left;cbv)|(refine R0 ?_;cbv))
  ·-- the next round
   rename_i y hy
   subst hy
   obtain⟨p0,p1,p2,p3⟩:=hpos (by lia)
   rename_i m em t et k ek r er l el l2 el2 t2 et2 i ei
   clear hq
   rw[hix,Int.add_zero] at em
   rw[hix] at el2
   subst em et ek er el2 et2 ei
   refine⟨WkR.of_eq ?_,?_,?_,trivial⟩
   ·simp only [O.h]
    rw[eci,ecr,Int.toNat_natCast]
    show _=(CutC.rows N x).set _ [.str _]
    rw[CutC.rows_set _ _ (by lia)]
    simp [CutC.next,CutC.rows]
   ·show x.cur.extract _ _=_
    rw[show(idxC x.cur+l).toNat=(idxC x.cur).toNat+1 by lia]
   ·simp only [O.h];simp [CutC.i,CutC.next,eci]
  ·obtain⟨p0,p1,p2,p3⟩:=hpos (by lia)
   refine⟨⟨?_,?_,?_⟩,?_⟩
   ·simp only [CutC.next,List.append_assoc,List.singleton_append];rw[i1,p2]
   ·simp only [CutC.next,List.length_append,List.length_singleton];rw[p3];lia
   ·simp only [CutC.next];rw[ByteArray.size_extract];lia
   ·simp only [CutC.next,List.length_append,List.length_singleton];lia
  ·lia
  ·refine⟨by lia,?_⟩
   rename_i k ek
   rw[show(Int.ofNat k).toNat=x.done.length by lia,ecr]
   exact CutC.rows_at _ _ (by lia)
  ·lia
  ·lia
  ·-- the end
   rename_i k ek r er hr i ei n en rs ers
   clear hr hq
   rw[show n=x.done.length+1 by lia,er,ek,eci,ecr] at ers
   have h0:=cnt_zeroC (s:=x.cur) (by lia)
   subst ers
   refine⟨WkR.of_eq ?_,trivial⟩
   simp only [O.h]
   rw[i1,h0]
   show _=List.take _ (((CutC.rows N x).set (Int.toNat _) [.str x.cur]).drop 0)
   rw[Int.toNat_natCast,CutC.rows_set _ _ (by lia),List.drop_zero,List.take_append_of_le_length (by simp [Strs]),List.take_of_length_le (by simp [Strs])]
  ·rename_i k ek r er i ei
   have:=hlen (by lia)
   lia
  ·refine⟨by lia,?_⟩
   rename_i k ek
   rw[show(Int.ofNat k).toNat=x.done.length by lia,ecr]
   exact CutC.rows_at _ _ (by lia)
  ·have:=hlen (by lia)
   lia
 ·rename_i n1 e1 n2 e2 n3 e3 n4 e4
  have q4:n4=cntC s+1:=by rw[e4];split<;>lia
  dsimp only
  lia
theorem split_fnC (O:Opq) (s sep:ByteArray) (hd:sep=comma) (hs:s.size≤1099511627776):Fn prog 35 [.str s,.str sep] [] [.sl false 0 false 1 (O.o Strs (O.o piecesC s))] []:=by
 refine go (fn:=Proofs.Tryz.f35) (n:=6) (rv:=[ResultVar.tmp 4]) rfl (by decide) rfl (by decide +kernel) rfl rfl (by simp) fun F L C=>?_
 cbv
 (repeat' first|(refine Na ?_ fun _ _=>?_;(focus lia);cbv)|(refine CallThen.mk _ _ (C.fn (genSplit_fnC O _ _ hd hs)) ?_;cbv)|(refine Nl fun _ _ hq=>?_;(try simp only [lenS] at hq);cbv)|(refine Nm fun _ _=>?_;cbv)|(refine Br.t ?_ ?_;(focus first|assumption|lia);cbv)|(refine Br.f ?_ ?_;(focus first|assumption|lia);cbv)|(refine Br.mk (fun _=>?_) (fun _=>?_)<;>cbv)|(refine Need.mk ?_ ?_;rotate_left;cbv)|(refine R0 ?_;cbv))
 all_goals exact⟨.refl _,trivial⟩
end Go.Sym
