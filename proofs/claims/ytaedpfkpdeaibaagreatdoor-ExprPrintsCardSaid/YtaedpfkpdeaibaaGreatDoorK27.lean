/- Layer 10's small question (walk). -/
import Derived.Test.YtaedpfkpdeaibaaGreatDoorK25
import Derived.Test.YtaedpfkpdeaibaaGreatDoorK26
import Derived.WideShapes
import Derived.LaidLaws
import Derived.Lib.LaidTab
import Derived.MakeChecks
import Derived.KernelRfl
set_option linter.all false
set_option linter.unusedVariables false
set_option linter.unusedSimpArgs false
namespace Go.Sym
open Go Go.Proofs.Tryz
set_option maxRecDepth 100000
theorem awake10_fn (O:Opq):Fn prog 8 [] [] [.bool true] []:=by
 have k1:=eparse_fn O askT (by decide)
 rw[O.h parseV,O.h parseE,ask_parse.1,ask_parse.2,show O.o ofL askT=(⟨#[110,111,114,109,40,112,42,112,41,43,49]⟩:ByteArray) by rw[O.h];rfl] at k1
 have k2:=eeval_fn O askD (by decide) (ok_small askX_ok)
 rw[O.h (evV askD),O.h (evB askD),ask_ev.1,ask_ev.2,show O.o Doc.enc askD=[[.str pB,.int .i64 3,.int .i64 0,.str ByteArray.empty,.int .i64 1,.int .i64 2]] by rw[O.h];rfl] at k2
 obtain⟨X,hX⟩:∃ X,X=askX.nd:=⟨_,rfl⟩
 rw[← hX] at k1 k2
 clear hX
 obtain⟨k,t,n,l⟩:=X
 refine goM (modeOf 13 [.bor,.keep]) (fn:=Proofs.Tryz.f8) (n:=28) (rv:=[ResultVar.tmp 0]) rfl (by decide) rfl (by decide +kernel) rfl rfl (by simp) fun F L C=>?_
 cbv
 (repeat' first|(refine Na ?_ fun _ _=>?_;(focus lia);cbv)|(refine CallThen.mk _ _ (C.fn (k1)) ?_;cbv)|(refine CallThen.mk _ _ (C.fn (Fn.wkA (k2) ?_)) ?_;(focus((repeat' apply WkAL.cons)<;>first|exact WkAL.nil|exact WkA.refl _|exact WkA.lend rfl|exact WkA.bor rfl (WkR.refl _)|exact WkA.wk (Wk.nil _ _)|exact WkA.wk (Wk.sl' rfl rfl (WkR.refl _))|(refine WkA.agg' ?_;((repeat' apply WkAL.cons)<;>first|exact WkAL.nil|exact WkA.refl _|exact WkA.lend rfl|exact WkA.bor rfl (WkR.refl _)|exact WkA.wk (Wk.nil _ _)|exact WkA.wk (Wk.sl' rfl rfl (WkR.refl _))|(refine WkA.agg' ?_;((repeat' apply WkAL.cons)<;>first|exact WkAL.nil|exact WkA.refl _|exact WkA.lend rfl|exact WkA.bor rfl (WkR.refl _)|exact WkA.wk (Wk.nil _ _)|exact WkA.wk (Wk.sl' rfl rfl (WkR.refl _))))))));cbv)|(refine Nl fun _ _ hq=>?_;(try simp only [lenS] at hq);cbv)|(refine Nm fun _ _=>?_;cbv)|(refine Br.t ?_ ?_;(focus first|assumption|lia);cbv)|(refine Br.f ?_ ?_;(focus first|assumption|lia);cbv)|(refine Br.mk (fun _=>?_) (fun _=>?_)<;>cbv)|(refine Need.mk ?_ ?_;rotate_left;cbv)|(refine R0 ?_;cbv))
 all_goals first
  | exact⟨rfl,trivial⟩
  | trace_state
open Go Go.Proofs Go.Proofs.Tryz
set_option maxRecDepth 10000
def Val.In (v:Val):Prop:=inI v.kind∧inI v.num∧inStr v.text∧inI v.re∧inI v.im
def Field.In (f:Field):Prop:=inStr f.path∧f.val.In
theorem c33:prog.cellsOf 35=2:=by decide +kernel
theorem c35:prog.cellsOf 37=5:=by decide +kernel
theorem c37:prog.cellsOf 55=6:=by decide +kernel
theorem shape_point {n:Nat} {xs:List PV} (h:shape prog n 35 xs):∃ a b:Int,xs=[.int .i64 a,.int .i64 b]∧inI a∧inI b:=by
 cases n with
 | zero=>exact h.elim
 | succ n =>
  simp only [shape,Tryz.underlying35,List.forall_mem_cons,List.not_mem_nil,false_imp_iff,implies_true,and_true,c33,c3] at h
  obtain⟨hl,h1,h2⟩:=h
  match xs,hl with
  | [x,y],_ =>
  obtain⟨a,ea,ia⟩:=shape_int (xs:=[x]) h1
  obtain⟨b,eb,ib⟩:=shape_int (xs:=[y]) h2
  cases ea;cases eb
  exact⟨a,b,rfl,ia,ib⟩
theorem shape_val {n:Nat} {xs:List PV} (h:shape prog n 37 xs):∃ v:Val,xs=v.enc∧v.In:=by
 cases n with
 | zero=>exact h.elim
 | succ n =>
  simp only [shape,Tryz.underlying37,List.forall_mem_cons,List.not_mem_nil,false_imp_iff,implies_true,and_true,c35,c33,c9,c3] at h
  obtain⟨hl,h1,h2,h3,h4⟩:=h
  match xs,hl with
  | [x,y,z,u,w],_ =>
  obtain⟨a,ea,ia⟩:=shape_int (xs:=[x]) h1
  obtain⟨b,eb,ib⟩:=shape_int (xs:=[y]) h2
  obtain⟨t,et,it⟩:=shape_str (xs:=[z]) h3
  obtain⟨p,q,ep,ip,iq⟩:=shape_point (xs:=[u,w]) h4
  cases ea;cases eb;cases et;cases ep
  exact⟨⟨a,b,t,p,q⟩,rfl,ia,ib,it,ip,iq⟩
theorem shape_field {n:Nat} {xs:List PV} (h:shape prog n 55 xs):∃ f:Field,xs=f.enc∧f.In:=by
 cases n with
 | zero=>exact h.elim
 | succ n =>
  simp only [shape,Tryz.underlying55,List.forall_mem_cons,List.not_mem_nil,false_imp_iff,implies_true,and_true,c37,c35,c9] at h
  obtain⟨hl,h1,h2⟩:=h
  match xs,hl with
  | x::ys,hl =>
  obtain⟨t,et,it⟩:=shape_str (xs:=[x]) h1
  have hy:(List.drop 1 (x::ys)).take 5=ys:=List.take_of_length_le (Nat.le_of_eq (by simpa using hl))
  rw[hy] at h2
  obtain⟨v,rfl,iv⟩:=shape_val h2
  cases et
  exact⟨⟨t,v⟩,rfl,it,iv⟩
theorem shape_doc {n:Nat} {x:PV} (h:shape prog n 32 [x]):∃ d:Doc,Wk (.sl false 0 false 6 (Doc.enc d)) x∧d.length≤9223372036854775807∧∀ f∈d,f.In:=by
 cases n with
 | zero=>exact h.elim
 | succ n =>
  simp only [shape,Tryz.underlying32,c37] at h
  rcases h with h | ⟨rows,h,hl,hr⟩
  ·cases h
   exact⟨[],.nil _ _,by simp,by simp⟩
  ·cases h
   obtain⟨d,rfl,hd⟩:=rows_of (fun r hr=>shape_field hr) hr
   exact⟨d,.sl' rfl rfl (.refl _),by simpa [maxLen] using hl,hd⟩
theorem parse_NdB (s:List UInt8):NdB 100000 (parseV s):=by
 by_cases h:parseE s=0
 ·obtain⟨e,he,_,hv,_⟩:=parse_made h
  rw[hv];exact(ok_small he).b
 ·rw[parseV,if_neg h];exact .mk (by simp) (by simp)
theorem ofL_list (s:ByteArray):ofL s.data.toList=s:=by cases s;rfl
theorem exprParses_fn (O:Opq) (S:ByteArray) (hs:S.size≤4611686018427387904):Fn prog 3 [.str S] [] [.bool true] []:=by
 have ka:=awake10_fn O
 obtain⟨s,hs0⟩:∃ s,s=S.data.toList:=⟨_,rfl⟩
 have hsl:s.length≤4611686018427387904:=by rw[hs0,size_list];exact hs
 have hS:O.o ofL s=S:=by rw[O.h,hs0,ofL_list]
 have k1:=eparse_fn O s hsl
 have k2:=rparse_fn O s hsl
 rw[O.h parseV,O.h parseE,hS] at k1 k2
 have k3:=rsame10_fn O (parse_NdB s) (parseV s)
 rw[show sameN (parseV s) (parseV s)=true by simp [sameN]] at k3
 obtain⟨V,hV⟩:∃ V,V=parseV s:=⟨_,rfl⟩
 obtain⟨E,hE⟩:∃ E,E=parseE s:=⟨_,rfl⟩
 by_cases h0:E=0
 ·rw[← hV,← hE] at k1 k2
  rw[← hV] at k3
  clear hV hE hS hs0 hsl
  obtain⟨k,t,n,l⟩:=V
  refine go (fn:=Proofs.Tryz.f3) (n:=43) (rv:=[ResultVar.tmp 2]) rfl (by decide) rfl (by decide +kernel) rfl rfl (by simp) fun F L C=>?_
  cbv
  (repeat' first|(refine Na ?_ fun _ _=>?_;(focus lia);cbv)|(refine CallThen.mk _ _ (C.fn (ka)) ?_;cbv)|(refine CallThen.mk _ _ (C.fn (k1)) ?_;cbv)|(refine CallThen.mk _ _ (C.fn (k2)) ?_;cbv)|(refine CallThen.mk _ _ (C.fn (k3)) ?_;cbv)|(refine Nl fun _ _ hq=>?_;(try simp only [lenS] at hq);cbv)|(refine Nm fun _ _=>?_;cbv)|(refine Br.t ?_ ?_;(focus first|assumption|lia);cbv)|(refine Br.f ?_ ?_;(focus first|assumption|lia);cbv)|(refine Br.mk (fun _=>?_) (fun _=>?_)<;>cbv)|(refine Need.mk ?_ ?_;rotate_left;cbv)|(refine R0 ?_;cbv))
  all_goals first
   | exact⟨rfl,trivial⟩
   | (exfalso;clear ka k1 k2 k3;lia)
   | trace_state
 ·have hz:parseV s=zeroN:=by rw[parseV,if_neg (by rw[← hE];exact h0)]
  rw[← hE,hz,zeroN_en,show O.o ofL []=ByteArray.empty by rw[O.h];rfl,Nds.nil O] at k1 k2
  rw[hz,zeroN_en,show O.o ofL []=ByteArray.empty by rw[O.h];rfl,Nds.nil O] at k3
  clear hV hE hS hs0 hsl hz
  refine go (fn:=Proofs.Tryz.f3) (n:=43) (rv:=[ResultVar.tmp 2]) rfl (by decide) rfl (by decide +kernel) rfl rfl (by simp) fun F L C=>?_
  cbv
  (repeat' first|(refine Na ?_ fun _ _=>?_;(focus lia);cbv)|(refine CallThen.mk _ _ (C.fn (ka)) ?_;cbv)|(refine CallThen.mk _ _ (C.fn (k1)) ?_;cbv)|(refine CallThen.mk _ _ (C.fn (k2)) ?_;cbv)|(refine CallThen.mk _ _ (C.fn (Fn.wkA (k3) ?_)) ?_;(focus((repeat' apply WkAL.cons)<;>first|exact WkAL.nil|exact WkA.refl _|exact WkA.lend rfl|exact WkA.bor rfl (WkR.refl _)|exact WkA.wk (Wk.nil _ _)|exact WkA.wk (Wk.sl' rfl rfl (WkR.refl _))|(refine WkA.agg' ?_;((repeat' apply WkAL.cons)<;>first|exact WkAL.nil|exact WkA.refl _|exact WkA.lend rfl|exact WkA.bor rfl (WkR.refl _)|exact WkA.wk (Wk.nil _ _)|exact WkA.wk (Wk.sl' rfl rfl (WkR.refl _))|(refine WkA.agg' ?_;((repeat' apply WkAL.cons)<;>first|exact WkAL.nil|exact WkA.refl _|exact WkA.lend rfl|exact WkA.bor rfl (WkR.refl _)|exact WkA.wk (Wk.nil _ _)|exact WkA.wk (Wk.sl' rfl rfl (WkR.refl _))))))));cbv)|(refine Nl fun _ _ hq=>?_;(try simp only [lenS] at hq);cbv)|(refine Nm fun _ _=>?_;cbv)|(refine Br.t ?_ ?_;(focus first|assumption|lia);cbv)|(refine Br.f ?_ ?_;(focus first|assumption|lia);cbv)|(refine Br.mk (fun _=>?_) (fun _=>?_)<;>cbv)|(refine Need.mk ?_ ?_;rotate_left;cbv)|(refine R0 ?_;cbv))
  all_goals first
   | exact⟨rfl,trivial⟩
   | (exfalso;clear ka k1 k2 k3;lia)
   | trace_state
theorem exprParses_long (O:Opq) (S:ByteArray) (hs:2000<S.size):Fn prog 3 [.str S] [] [.bool true] []:=by
 have ka:=awake10_fn O
 refine go (fn:=Proofs.Tryz.f3) (n:=43) (rv:=[ResultVar.tmp 2]) rfl (by decide) rfl (by decide +kernel) rfl rfl (by simp) fun F L C=>?_
 cbv
 (repeat' first|(refine Na ?_ fun _ _=>?_;(focus lia);cbv)|(refine CallThen.mk _ _ (C.fn (ka)) ?_;cbv)|(refine Nl fun _ _ hq=>?_;(try simp only [lenS] at hq);cbv)|(refine Nm fun _ _=>?_;cbv)|(refine Br.t ?_ ?_;(focus first|assumption|lia);cbv)|(refine Br.f ?_ ?_;(focus first|assumption|lia);cbv)|(refine Br.mk (fun _=>?_) (fun _=>?_)<;>cbv)|(refine Need.mk ?_ ?_;rotate_left;cbv)|(refine R0 ?_;cbv))
 all_goals first
  | exact⟨rfl,trivial⟩
  | (exfalso;clear ka;lia)
  | trace_state
theorem exprParses_law {a0:ByteArray} (_:a0.data.toList.length≤maxLen):Fn prog 3 [.str a0] [] [.bool true] []:=by
 by_cases h:2000<a0.size
 ·exact exprParses_long Opq.id a0 h
 ·exact exprParses_fn Opq.id a0 (by omega)
open Go
mutual
def sizeI:Nd→Int→Int
 | .mk _ t _ l,a=>if 2000<t.length then 3000 else sizesI l (a+1+t.length)
def sizesI:List Nd→Int→Int
 | [],a=>a
 | x::r,a=>if a<3000 then sizesI r (sizeI x a) else a
end
theorem sizesI_end {l:List Nd} {a:Int} (h:3000≤a):sizesI l a=a:=by
 cases l with
 | nil=>rw[sizesI]
 | cons x r=>rw[sizesI,if_neg (by omega)]
theorem sizesI_drop {l:List Nd} {i:Nat} {x:Nd} (hx:l[i]?=some x) {a:Int} (h:a<3000):sizesI (l.drop i) a=sizesI (l.drop (i+1)) (sizeI x a):=by
 obtain⟨hi,rfl⟩:=List.getElem?_eq_some_iff.1 hx
 rw[List.drop_eq_getElem_cons hi,sizesI,if_pos h]
mutual
theorem sizeI_le:∀ (x:Nd) (a:Int),0≤a→a<3000→0≤sizeI x a∧sizeI x a≤6000
 | .mk _ t _ l,a,h,h2=>by
  rw[sizeI]
  split
  ·omega
  ·exact sizesI_le l _ (by omega) (by omega)
theorem sizesI_le:∀ (l:List Nd) (a:Int),0≤a→a≤6000→0≤sizesI l a∧sizesI l a≤6000
 | [],a,h,h2=>by rw[sizesI];omega
 | x::r,a,h,h2=>by
  rw[sizesI]
  split
  ·rename_i h3
   have:=sizeI_le x a h h3
   exact sizesI_le r _ this.1 this.2
  ·omega
end
mutual
theorem sizeI_small:∀ (x:Nd) (a:Int),0≤a→sizeI x a<3000→NdS x∧a+1≤sizeI x a
 | .mk k t n l,a,h,h2=>by
  rw[sizeI] at h2 ⊢
  split at h2
  ·omega
  ·rename_i ht
   obtain⟨h3,h4⟩:=sizesI_small l _ (by omega) h2
   rw[if_neg ht]
   exact⟨.mk (by omega) (by omega) h3,by omega⟩
theorem sizesI_small:∀ (l:List Nd) (a:Int),0≤a→sizesI l a<3000→(∀ x∈l,NdS x)∧a+l.length≤sizesI l a
 | [],a,h,h2=>by rw[sizesI];exact⟨by simp,by simp⟩
 | x::r,a,h,h2=>by
  rw[sizesI] at h2 ⊢
  split at h2
  ·rename_i h3
   rw[if_pos h3]
   by_cases h5:sizeI x a<3000
   ·obtain⟨h6,h7⟩:=sizeI_small x a h h5
    obtain⟨h8,h9⟩:=sizesI_small r _ (by omega) h2
    exact⟨fun y hy=>by rcases List.mem_cons.1 hy with rfl|hy;exact h6;exact h8 y hy,by simp only [List.length_cons];omega⟩
   ·rw[sizesI_end (by omega)] at h2;omega
  ·omega
end
theorem size_fn (O:Opq) {x:Nd} (hx:NdB 9223372036854775807 x):∀ a:Int,0≤a→a<3000→Fn prog 12 [.agg (x.en O),.int .i64 a] [] [.int .i64 (O.o (sizeI x) a)] []:=by
 induction hx with
 | @mk k t n l hl _ ih =>
 intro a ha ha2
 have hlen:=Nds.en_len O l
 have hsz:(O.o ofL t).size=t.length:=by rw[O.h,size_ofL]
 obtain⟨T,hT⟩:∃ T,T=O.o ofL t:=⟨_,rfl⟩
 obtain⟨M,hM⟩:∃ M,M=t.length:=⟨_,rfl⟩
 rw[← hT,← hM] at hsz
 have hdef:sizeI (.mk k t n l) a=if 2000<M then 3000 else sizesI l (a+1+M):=by rw[sizeI,hM]
 rw[O.h (sizeI _)]
 obtain⟨Q,hQ⟩:∃ Q,Q=sizeI (.mk k t n l) a:=⟨_,rfl⟩
 rw[← hQ] at hdef ⊢
 show Fn prog 12 [.agg [.int .i64 k,.str (O.o ofL t),.int .i64 n,.sl false 0 false 4 (O.o Nds.enc l)],.int .i64 a] [] [.int .i64 Q] []
 rw[← hT]
 clear hT hQ
 by_cases hM2:2000<M
 ·rw[if_pos hM2] at hdef
  subst hdef
  clear ih
  refine go (fn:=Proofs.Tryz.f12) (n:=34) (rv:=[ResultVar.tmp 4]) rfl (by decide) rfl (by decide +kernel) rfl rfl (by simp) fun F L C=>?_
  cbv
  (repeat' first|(refine Na ?_ fun _ _=>?_;(focus lia);cbv)|(refine Nl fun _ _ hq=>?_;(try simp only [lenS] at hq);cbv)|(refine Nm fun _ _=>?_;cbv)|(refine Br.t ?_ ?_;(focus first|assumption|lia);cbv)|(refine Br.f ?_ ?_;(focus first|assumption|lia);cbv)|(refine Br.mk (fun _=>?_) (fun _=>?_)<;>cbv)|(refine Need.mk ?_ ?_;rotate_left;cbv)|(refine R0 ?_;cbv))
  all_goals first
   | exact⟨rfl,trivial⟩
   | (exfalso;lia)
   | trace_state
 ·rw[if_neg hM2] at hdef
  obtain⟨N,hN⟩:∃ N:Nat,N=l.length:=⟨_,rfl⟩
  obtain⟨z,hz⟩:∃ z:Nat,z=0:=⟨_,rfl⟩
  obtain⟨A,hA⟩:∃ A:Int,A=a+1+M:=⟨_,rfl⟩
  rw[← hA] at hdef
  have h0:sizesI (l.drop z) A=Q:=by rw[hz,List.drop_zero];exact hdef.symm
  rw[← hN] at hl hlen
  have hA0:0≤A∧A≤6000:=by omega
  clear hdef
  refine go (fn:=Proofs.Tryz.f12) (n:=34) (rv:=[ResultVar.tmp 4]) rfl (by decide) rfl (by decide +kernel) rfl rfl (by simp) fun F L C=>?_
  cbv
  (repeat' first|(refine Na ?_ fun _ _=>?_;(focus lia);cbv)|(refine Nl fun _ _ hq=>?_;(try simp only [lenS] at hq);cbv)|(refine Nm fun _ _=>?_;cbv)|(refine Br.t ?_ ?_;(focus first|assumption|lia);cbv)|(refine Br.f ?_ ?_;(focus first|assumption|lia);cbv)|(refine Br.mk (fun _=>?_) (fun _=>?_)<;>cbv)|(refine Need.mk ?_ ?_;rotate_left;cbv)|(refine R0 ?_;cbv))
  all_goals try(exfalso;clear h0 ih;lia)
  refine LoopThen.mk (C.loopAt (ι:=Nat×Int) [(1,1),(5,5),(17,34)] (fun i=>[(1,.int .i64 i.2),(5,.int .i64 i.1)]) (fun _=>[(256,.box [.int .i64 k,.str T,.int .i64 n,.sl false 0 false 4 (O.o Nds.enc l)])])
   (fun i=>i.1≤N∧0≤i.2∧i.2≤6000∧sizesI (l.drop i.1) i.2=Q) (fun i=>N-i.1) (by decide +kernel) (Start.mk (z,A) [] [] ⟨by show z≤N;omega,hA0.1,hA0.2,h0⟩ ?_) ?_)
  ·clear h0 ih
   cbv
   (repeat' apply And.intro)<;>first|exact True.intro|exact WkR.refl _|rfl|lia|trace_state
  rintro ⟨i,b⟩ g
  cbv
  have g1:i≤N:=g.1
  have g2:0≤b∧b≤6000:=⟨g.2.1,g.2.2.1⟩
  have g3:sizesI (l.drop i) b=Q:=g.2.2.2
  clear g h0
  by_cases hi:i<N∧b<3000
  ·obtain⟨x,hx⟩:∃ x,l[i]?=some x:=⟨l[i]'(by omega),List.getElem?_eq_getElem (by omega)⟩
   have hc:=ih x (List.mem_of_getElem? hx) b g2.1 hi.2
   rw[O.h (sizeI x)] at hc
   have hle:=sizeI_le x b g2.1 hi.2
   have hst:sizesI (l.drop (i+1)) (sizeI x b)=Q:=by rw[← sizesI_drop hx hi.2];exact g3
   obtain⟨c,ec⟩:∃ c,c=sizeI x b:=⟨_,rfl⟩
   rw[← ec] at hc hle hst
   clear ih g3 ec
   obtain⟨ak,at',an,al⟩:=x
   (repeat' first|(refine Na ?_ fun _ _=>?_;(focus lia);cbv)|(refine Ex.nd O hx ?_ ?_;(focus(clear hc hst;lia));cbv)|(refine CallThen.mk _ _ (C.fn (hc)) ?_;cbv)|(refine Back.to (i+1,c) [] [] ?_ fun _ _=>?_;rotate_left;cbv)|(refine Nl fun _ _ hq=>?_;(try simp only [lenS] at hq);cbv)|(refine Nm fun _ _=>?_;cbv)|(refine Br.t ?_ ?_;(focus first|assumption|lia);cbv)|(refine Br.f ?_ ?_;(focus first|assumption|lia);cbv)|(refine Br.mk (fun _=>?_) (fun _=>?_)<;>cbv)|(refine Need.mk ?_ ?_;rotate_left;cbv)|(refine R0 ?_;cbv))
   all_goals try first
    | exact⟨⟨by show i+1≤N;omega,hle.1,hle.2,hst⟩,by show N-(i+1)<N-i;omega⟩
    | (rename_i q hq;subst hq;refine⟨.refl _,.refl _,rfl,?_,trivial⟩;show Int.ofNat (i+1)=_;clear hc hst;lia)
    | (clear hc hst;lia)
   all_goals trace_state
  ·have hq:b=Q:=by
    by_cases hb:b<3000
    ·have:l.drop i=[]:=List.drop_of_length_le (by omega)
     rw[this,sizesI] at g3;exact g3
    ·rw[sizesI_end (by omega)] at g3;exact g3
   subst hq
   clear ih g3
   (repeat' first|(refine Na ?_ fun _ _=>?_;(focus lia);cbv)|(refine Nl fun _ _ hq=>?_;(try simp only [lenS] at hq);cbv)|(refine Nm fun _ _=>?_;cbv)|(refine Br.t ?_ ?_;(focus first|assumption|lia);cbv)|(refine Br.f ?_ ?_;(focus first|assumption|lia);cbv)|(refine Br.mk (fun _=>?_) (fun _=>?_)<;>cbv)|(refine Need.mk ?_ ?_;rotate_left;cbv)|(refine R0 ?_;cbv))
   all_goals first
    | exact⟨rfl,trivial⟩
    | (exfalso;lia)
    | trace_state
theorem cNd0:prog.cellsOf 25=4:=by decide +kernel
theorem cNd1:prog.cellsOf 23=1:=by decide +kernel
theorem rows_wky {α:Type} {e:α→List PV} {In:α→Prop} {Q:List PV→Prop} (hq:∀ r,Q r→∃ a,WkL (e a) r∧In a):∀ {rows:List (List PV)},(∀ r∈rows,Q r)→∃ l:List α,WkR (l.map e) rows∧l.length=rows.length∧∀ a∈l,In a
 | [],_=>⟨[],.refl _,rfl,by simp⟩
 | r::rows,h=>by
  obtain⟨a,ha,ia⟩:=hq r (h r (by simp))
  obtain⟨l,hl,ll,il⟩:=rows_wky (rows:=rows) hq fun r hr=>h r (List.mem_cons_of_mem _ hr)
  exact⟨a::l,.cons ha hl,by simp [ll],by simpa using⟨ia,il⟩⟩
theorem shape_nd:∀ {n:Nat} {xs:List PV},shape prog n 25 xs→∃ c:Nd,WkL c.enc xs∧NdB 9223372036854775807 c
 | 0,_,h=>h.elim
 | 1,_,h=>by
  simp only [shape,Tryz.underlying25,List.forall_mem_cons,List.not_mem_nil,false_imp_iff,implies_true,and_true] at h
  exact h.2.1.elim
 | n+2,xs,h=>by
  have ih:=fun(r:List PV)=>shape_nd (n:=n) (xs:=r)
  rw[shape] at h
  simp only [Tryz.underlying25,List.forall_mem_cons,List.not_mem_nil,false_imp_iff,implies_true,and_true,cNd0,cNd1,c9,c3] at h
  obtain⟨hl,h1,h2,h3,h4⟩:=h
  match xs,hl with
  | [x,y,z,u],_ =>
  obtain⟨a,ea,ia⟩:=shape_int (xs:=[x]) h1
  obtain⟨t,et,it⟩:=shape_str (xs:=[y]) h2
  obtain⟨b,eb,ib⟩:=shape_int (xs:=[z]) h3
  cases ea;cases eb;cases et
  have et:t=ofL t.data.toList:=by cases t;rfl
  simp only [List.drop_succ_cons,List.drop_zero,List.take_succ_cons,List.take_zero,shape,Tryz.underlying23,cNd0] at h4
  rw[et]
  rcases h4 with h4 | ⟨rows,h4,hl,hr⟩
  ·cases h4
   exact⟨.mk a t.data.toList b [],.cons (.refl _) (.cons (.refl _) (.cons (.refl _) (.cons (.nil _ _) (.refl _)))),.mk (by simp) (by simp)⟩
  ·cases h4
   obtain⟨l,hw,hll,hi⟩:=rows_wky (fun r hr=>ih r hr) hr
   rw[← Nds.enc_map] at hw
   refine⟨.mk a t.data.toList b l,?_,.mk (by rw[hll];simpa [maxLen] using hl) hi⟩
   rw[Nd.enc]
   exact .cons (.refl _) (.cons (.refl _) (.cons (.refl _) (.cons (.sl' rfl rfl hw) (.refl _))))
theorem exprEvals_big (O:Opq) {x:Nd} (hx:NdB 9223372036854775807 x) (d:Doc) (hb:3000≤sizeI x 0∨40<d.length) (hd:d.length≤9223372036854775807):Fn prog 4 [.agg (x.en O),.sl false 0 false 6 (O.o Doc.enc d)] [] [.bool true] []:=by
 have ka:=awake10_fn O
 have k0:=size_fn O hx 0 (by omega) (by omega)
 rw[O.h (sizeI x)] at k0
 have hlen:(O.o Doc.enc d).length=d.length:=by rw[O.h,Doc.enc_len]
 obtain⟨Z,hZ⟩:∃ Z,Z=sizeI x 0:=⟨_,rfl⟩
 rw[← hZ] at k0 hb
 clear hx hZ
 obtain⟨k,t,n,l⟩:=x
 refine go (fn:=Proofs.Tryz.f4) (n:=48) (rv:=[ResultVar.tmp 4]) rfl (by decide) rfl (by decide +kernel) rfl rfl (by simp) fun F L C=>?_
 cbv
 (repeat' first|(refine Na ?_ fun _ _=>?_;(focus lia);cbv)|(refine CallThen.mk _ _ (C.fn (ka)) ?_;cbv)|(refine CallThen.mk _ _ (C.fn (k0)) ?_;cbv)|(refine Nl fun _ _ hq=>?_;(try simp only [lenS] at hq);cbv)|(refine Nm fun _ _=>?_;cbv)|(refine Br.t ?_ ?_;(focus first|assumption|lia);cbv)|(refine Br.f ?_ ?_;(focus first|assumption|lia);cbv)|(refine Br.mk (fun _=>?_) (fun _=>?_)<;>cbv)|(refine Need.mk ?_ ?_;rotate_left;cbv)|(refine R0 ?_;cbv))
 all_goals first
  | exact⟨rfl,trivial⟩
  | (exfalso;clear ka k0;lia)
  | trace_state
theorem exprEvals_fn (O:Opq) {x:Nd} (hx:NdB 9223372036854775807 x) (d:Doc) (hb:sizeI x 0<3000) (hd:d.length≤40) (hs:∀ f∈d,f.path.size≤9223372036854775807):Fn prog 4 [.agg (x.en O),.sl false 0 false 6 (O.o Doc.enc d)] [] [.bool true] []:=by
 have ka:=awake10_fn O
 have k0:=size_fn O hx 0 (by omega) (by omega)
 rw[O.h (sizeI x)] at k0
 have hS:=(sizeI_small x 0 (by omega) hb).1
 have k1:=eeval_fn O d (by omega) hS
 have k2:=reval_fn O d (by omega) hs hS
 rw[O.h (evV d),O.h (evB d)] at k1 k2
 have hok:evB d x=true→(evV d x).Ok:=fun h=>by
  unfold evB at h
  obtain⟨v,hv⟩:=Option.isSome_iff_exists.1 h
  rw[(ev_yes hv).1]
  exact evO_ok hv
 have hlen:(O.o Doc.enc d).length=d.length:=by rw[O.h,Doc.enc_len]
 obtain⟨Z,hZ⟩:∃ Z,Z=sizeI x 0:=⟨_,rfl⟩
 obtain⟨V,hV⟩:∃ V,V=evV d x:=⟨_,rfl⟩
 obtain⟨B,hB⟩:∃ B,B=evB d x:=⟨_,rfl⟩
 rw[← hZ] at k0 hb
 rw[← hV,← hB] at k1 k2 hok
 clear hx hZ hS hV hB hs
 cases B
 ·clear hok
  obtain⟨k,t,n,l⟩:=x
  obtain⟨v1,v2,v3,v4,v5⟩:=V
  refine go (fn:=Proofs.Tryz.f4) (n:=48) (rv:=[ResultVar.tmp 4]) rfl (by decide) rfl (by decide +kernel) rfl rfl (by simp) fun F L C=>?_
  cbv
  (repeat' first|(refine Br.t rfl ?_;cbv)|(refine Na ?_ fun _ _=>?_;(focus lia);cbv)|(refine CallThen.mk _ _ (C.fn (ka)) ?_;cbv)|(refine CallThen.mk _ _ (C.fn (k0)) ?_;cbv)|(refine CallThen.mk _ _ (C.fn (k1)) ?_;cbv)|(refine CallThen.mk _ _ (C.fn (k2)) ?_;cbv)|(refine Nl fun _ _ hq=>?_;(try simp only [lenS] at hq);cbv)|(refine Nm fun _ _=>?_;cbv)|(refine Br.t ?_ ?_;(focus first|assumption|lia);cbv)|(refine Br.f ?_ ?_;(focus first|assumption|lia);cbv)|(refine Br.mk (fun _=>?_) (fun _=>?_)<;>cbv)|(refine Need.mk ?_ ?_;rotate_left;cbv)|(refine R0 ?_;cbv))
  all_goals first
   | exact⟨rfl,trivial⟩
   | (exfalso;clear ka k0 k1 k2;lia)
   | trace_state
 ·have k3:=rcheck2_ok (hok rfl)
  clear hok
  obtain⟨k,t,n,l⟩:=x
  obtain⟨v1,v2,v3,v4,v5⟩:=V
  refine go (fn:=Proofs.Tryz.f4) (n:=48) (rv:=[ResultVar.tmp 4]) rfl (by decide) rfl (by decide +kernel) rfl rfl (by simp) fun F L C=>?_
  cbv
  (repeat' first|(refine Br.t rfl ?_;cbv)|(refine Na ?_ fun _ _=>?_;(focus lia);cbv)|(refine CallThen.mk _ _ (C.fn (ka)) ?_;cbv)|(refine CallThen.mk _ _ (C.fn (k0)) ?_;cbv)|(refine CallThen.mk _ _ (C.fn (k1)) ?_;cbv)|(refine CallThen.mk _ _ (C.fn (k2)) ?_;cbv)|(refine CallThen.mk _ _ (C.fn (k3)) ?_;cbv)|(refine Nl fun _ _ hq=>?_;(try simp only [lenS] at hq);cbv)|(refine Nm fun _ _=>?_;cbv)|(refine Br.t ?_ ?_;(focus first|assumption|lia);cbv)|(refine Br.f ?_ ?_;(focus first|assumption|lia);cbv)|(refine Br.mk (fun _=>?_) (fun _=>?_)<;>cbv)|(refine Need.mk ?_ ?_;rotate_left;cbv)|(refine R0 ?_;cbv))
  all_goals first
   | exact⟨rfl,trivial⟩
   | (exfalso;clear ka k0 k1 k2 k3;lia)
   | trace_state
theorem exprEvals_law {n0:Nat} {x0:List PV} {n1:Nat} {x1:PV} (s0:shape prog n0 25 x0) (s1:shape prog n1 32 [x1]):Fn prog 4 [.agg x0,x1] [] [.bool true] []:=by
 obtain⟨x,wx,bx⟩:=shape_nd s0
 obtain⟨d,wd,ld,id⟩:=shape_doc s1
 rw[Nd.en_eq Opq.id] at wx
 have h:Fn prog 4 [.agg (x.en Opq.id),.sl false 0 false 6 (Opq.id.o Doc.enc d)] [] [.bool true] []:=by
  by_cases h1:3000≤sizeI x 0∨40<d.length
  ·exact exprEvals_big Opq.id bx d h1 ld
  ·have h2:=not_or.1 h1
   exact exprEvals_fn Opq.id bx d (by omega) (by omega) (fun f hf=>(id f hf).1)
 exact Fn.wkA h (.cons (.agg' ⟨wx.len,fun j x y p q=>.wk (wx.at' j x y p q)⟩) (.cons (.wk wd) .nil))
theorem laid_at {P:Program} {w:World} {n:String} {d:DataW Unit}:∀ {laid:List (String×DataW Unit)} {ps:List MemPlace},DataW.LaidVars P w laid ps→(n,d)∈laid →
  ∃ g t cs fuel p,P.globalNamed n=some g∧(P.globals[g]?).map (·.type)=some t∧w.var? P n=some cs∧DataW.trod (fun _=>()) P w 0 (fun _=>true) false fuel t cs.toList=some (d,p)
 | [],_,_,h=>by simp at h
 | (n',d')::r,ps,hl,h=>by
  obtain⟨g,t,cs,fuel,p,q,h1,h2,h3,h4,h5,_⟩:=hl
  rcases List.mem_cons.1 h with e|h
  ·cases e;exact⟨g,t,cs,fuel,p,h1,h2,h3,h4⟩
  ·exact laid_at h5 h
theorem hok_tab {laid:List (String×DataW Unit)} {W:World} {zs:List Int} {ps:List MemPlace} (hv:DataW.LaidVars prog W laid ps) (h1:(thePow,Lib.tabData .u64 zs)∈laid):Lib.TabIs prog W thePow .u64 zs:=by
 obtain⟨g,t,cs,fuel,p,hg,ht,hc,hd⟩:=laid_at hv h1
 have eg:prog.globalNamed thePow=some 3:=by kernel_rfl
 obtain rfl:=Option.some.inj (eg.symm.trans hg)
 have et:(prog.globals[3]?).map (·.type)=some 154:=by kernel_rfl
 obtain rfl:=Option.some.inj (et.symm.trans ht)
 have hcs:=Lib.cells_of_tab underlying154 underlying137 (by kernel_rfl) (by kernel_rfl) hd
 unfold Lib.TabIs
 rw[hc,← hcs]
theorem hok {laid:List (String×DataW Unit)} {W:World} {en:String} {ed:DataW Unit} (h:laidMet prog laid W) (h1:(thePow,Lib.tabData .u64 Lib.pow10Tab)∈laid) (h2:(theErr,.iface en ed)∈laid):theLaid.ok W:=by
 obtain⟨ps,hv,_⟩:=h
 obtain⟨g,t,cs',fuel,p,hg,ht,hc',hd'⟩:=laid_at hv h2
 have eg:prog.globalNamed theErr=some 5:=by kernel_rfl
 obtain rfl:=Option.some.inj (eg.symm.trans hg)
 have et:(prog.globals[5]?).map (·.type)=some 106:=by kernel_rfl
 obtain rfl:=Option.some.inj (et.symm.trans ht)
 obtain⟨f,u,v,hv',_,_⟩:=iface_of_trod underlying106 hd'
 refine⟨hok_tab hv h1,u,v,?_⟩
 rw[hc']
 exact congrArg some (Array.ext' hv')
theorem parse_NdS (s:List UInt8):NdS (parseV s):=by
 by_cases h:parseE s=0
 ·obtain⟨e,he,_,hv,_⟩:=parse_made h
  rw[hv];exact ok_small he
 ·rw[parseV,if_neg h];exact .mk (by simp) (by simp) (by simp)
theorem allV_small (s:List UInt8):(∀ x∈allV s,NdS x)∧(allV s).length≤4:=by
 unfold allV
 split
 ·rename_i h
  have h4:(splitLC s).length≤4:=by
   unfold allE at h
   split at h
   ·cases h
   ·omega
  refine⟨fun x hx=>?_,by simpa using h4⟩
  obtain⟨y,_,rfl⟩:=List.mem_map.1 hx
  exact parse_NdS y
 ·exact⟨by simp,by simp⟩
theorem exprLists_big (O:Opq) (S:ByteArray) (d:Doc) (hb:2000<S.size∨40<d.length) (hd:d.length≤9223372036854775807):Fn prog 5 [.str S,.sl false 0 false 6 (O.o Doc.enc d)] [] [.bool true] []:=by
 have ka:=awake10_fn O
 have hlen:(O.o Doc.enc d).length=d.length:=by rw[O.h,Doc.enc_len]
 refine go (fn:=Proofs.Tryz.f5) (n:=80) (rv:=[ResultVar.tmp 4]) rfl (by decide) rfl (by decide +kernel) rfl rfl (by simp) fun F L C=>?_
 cbv
 (repeat' first|(refine Na ?_ fun _ _=>?_;(focus lia);cbv)|(refine CallThen.mk _ _ (C.fn (ka)) ?_;cbv)|(refine Nl fun _ _ hq=>?_;(try simp only [lenS] at hq);cbv)|(refine Nm fun _ _=>?_;cbv)|(refine Br.t ?_ ?_;(focus first|assumption|lia);cbv)|(refine Br.f ?_ ?_;(focus first|assumption|lia);cbv)|(refine Br.mk (fun _=>?_) (fun _=>?_)<;>cbv)|(refine Need.mk ?_ ?_;rotate_left;cbv)|(refine R0 ?_;cbv))
 all_goals first
  | exact⟨rfl,trivial⟩
  | (exfalso;clear ka;lia)
  | trace_state
theorem exprLists_fn (O:Opq) (S:ByteArray) (d:Doc) (hb:S.size≤2000) (hd:d.length≤40) (hs:∀ f∈d,f.path.size≤9223372036854775807):Fn prog 5 [.str S,.sl false 0 false 6 (O.o Doc.enc d)] [] [.bool true] []:=by
 have ka:=awake10_fn O
 have hlen:(O.o Doc.enc d).length=d.length:=by rw[O.h,Doc.enc_len]
 obtain⟨s,hs0⟩:∃ s,s=S.data.toList:=⟨_,rfl⟩
 have hsl:s.length≤2000:=by rw[hs0,size_list];exact hb
 have hS:O.o ofL s=S:=by rw[O.h,hs0,ofL_list]
 have k1:=eall_fn O s (by omega)
 have k2:=reall_fn O s (by omega)
 rw[O.h allV,O.h allE,hS] at k1 k2
 obtain⟨hsm,h4⟩:=allV_small s
 obtain⟨l,hl⟩:∃ l,l=allV s:=⟨_,rfl⟩
 obtain⟨E,hE⟩:∃ E,E=allE s:=⟨_,rfl⟩
 rw[← hl,← hE] at k1 k2
 rw[← hl] at hsm h4
 have k3:=eevalall_fn O d (by omega) (by omega) hsm
 have k4:=revalall_fn O d (by omega) hs (by omega) hsm
 have hvl:(eallL d l).length≤1000000000:=by
  unfold eallL eallO
  split
  ·simp
  ·cases h:seqO (evO d) l with
   | none=>simp
   | some vs=>have:=seqO_len h;simp only [Option.getD_some];omega
 have k5:=rvsame_fn O (m:=eallL d l) hvl
 rw[show sameVs (eallL d l) (eallL d l)=true by simp [sameVs]] at k5
 rw[O.h (eallL d),O.h (eallB d)] at k3 k4
 have hln:=Nds.en_len O l
 have kS:∀ x∈l,Fn prog 11 [.agg (x.en O),.agg (x.en O)] [] [.bool true] []:=fun x hx=>by
  have:=rsame10_fn O (hsm x hx).b x
  rwa [show sameN x x=true by simp [sameN]] at this
 obtain⟨V,hV⟩:∃ V,V=eallL d l:=⟨_,rfl⟩
 obtain⟨B,hB⟩:∃ B,B=eallB d l:=⟨_,rfl⟩
 rw[← hV,← hB] at k3 k4
 rw[← hV] at k5
 obtain⟨N,hN⟩:∃ N:Nat,N=l.length:=⟨_,rfl⟩
 obtain⟨z,hz⟩:∃ z:Nat,z=0:=⟨_,rfl⟩
 rw[← hN] at hln h4
 clear hs hs0 hsl hS hsm hl hE hvl hV hB
 refine go (fn:=Proofs.Tryz.f5) (n:=80) (rv:=[ResultVar.tmp 4]) rfl (by decide) rfl (by decide +kernel) rfl rfl (by simp) fun F L C=>?_
 cbv
 (repeat' first|(refine Na ?_ fun _ _=>?_;(focus lia);cbv)|(refine CallThen.mk _ _ (C.fn (k1)) ?_;cbv)|(refine CallThen.mk _ _ (C.fn (k2)) ?_;cbv)|(refine Nl fun _ _ hq=>?_;(try simp only [lenS] at hq);cbv)|(refine Nm fun _ _=>?_;cbv)|(refine Br.t ?_ ?_;(focus first|assumption|lia);cbv)|(refine Br.f ?_ ?_;(focus first|assumption|lia);cbv)|(refine Br.mk (fun _=>?_) (fun _=>?_)<;>cbv)|(refine Need.mk ?_ ?_;rotate_left;cbv)|(refine R0 ?_;cbv))
 all_goals try(exfalso;clear ka k1 k2 k3 k4 k5 kS;lia)
 refine LoopThen.mk (C.loopAt (ι:=Nat) [(4,4),(9,9),(43,58)] (fun i=>[(9,.int .i64 i)]) (fun _=>[])
  (fun i=>i≤N) (fun i=>N-i) (by decide +kernel) (Start.mk z [] [] (show z≤N by omega) ?_) ?_)
 ·clear ka k1 k2 k3 k4 k5 kS
  cbv
  (repeat' apply And.intro)<;>first|exact True.intro|exact WkR.refl _|rfl|lia|trace_state
 intro i g
 cbv
 have g1:i≤N:=g
 clear g k1 k2
 by_cases hi:i<N
 ·obtain⟨x,hx⟩:∃ x,l[i]?=some x:=⟨l[i]'(by omega),List.getElem?_eq_getElem (by omega)⟩
  have hc:=kS x (List.mem_of_getElem? hx)
  clear kS k3 k4 k5 ka
  obtain⟨ak,at',an,al⟩:=x
  (repeat' first|(refine Na ?_ fun _ _=>?_;(focus lia);cbv)|(refine Ex.nd O hx ?_ ?_;(focus(clear hc;lia));cbv)|(refine CallThen.mk _ _ (C.fn (hc)) ?_;cbv)|(refine Back.up [] [] ?_ ?_ fun _ _=>?_;rotate_left 2;cbv;refine And.intro ?_ ?_)|(refine Nl fun _ _ hq=>?_;(try simp only [lenS] at hq);cbv)|(refine Nm fun _ _=>?_;cbv)|(refine Br.t ?_ ?_;(focus first|assumption|lia);cbv)|(refine Br.f ?_ ?_;(focus first|assumption|lia);cbv)|(refine Br.mk (fun _=>?_) (fun _=>?_)<;>cbv)|(refine Need.mk ?_ ?_;rotate_left;cbv)|(refine R0 ?_;cbv))
  all_goals(repeat' apply And.intro)
  all_goals first
   | exact True.intro
   | exact WkR.refl _
   | rfl
   | (clear hc;lia)
   | trace_state
 ·clear kS
  cases B
  all_goals
   (repeat' first|(refine Na ?_ fun _ _=>?_;(focus lia);cbv)|(refine CallThen.mk _ _ (C.fn (ka)) ?_;cbv)|(refine CallThen.mk _ _ (C.fn (k3)) ?_;cbv)|(refine CallThen.mk _ _ (C.fn (k4)) ?_;cbv)|(refine CallThen.mk _ _ (C.fn (k5)) ?_;cbv)|(refine Nl fun _ _ hq=>?_;(try simp only [lenS] at hq);cbv)|(refine Nm fun _ _=>?_;cbv)|(refine Br.t ?_ ?_;(focus first|assumption|lia);cbv)|(refine Br.f ?_ ?_;(focus first|assumption|lia);cbv)|(refine Br.mk (fun _=>?_) (fun _=>?_)<;>cbv)|(refine Need.mk ?_ ?_;rotate_left;cbv)|(refine R0 ?_;cbv))
   all_goals first
    | exact⟨rfl,trivial⟩
    | (exfalso;clear ka k3 k4 k5;lia)
    | trace_state
theorem exprLists_law {a0:ByteArray} {n1:Nat} {x1:PV} (_:a0.data.toList.length≤maxLen) (s1:shape prog n1 32 [x1]):Fn prog 5 [.str a0,x1] [] [.bool true] []:=by
 obtain⟨d,wd,ld,id⟩:=shape_doc s1
 have h:Fn prog 5 [.str a0,.sl false 0 false 6 (Opq.id.o Doc.enc d)] [] [.bool true] []:=by
  by_cases h1:2000<a0.size∨40<d.length
  ·exact exprLists_big Opq.id a0 d h1 ld
  ·have h2:=not_or.1 h1
   exact exprLists_fn Opq.id a0 d (by omega) (by omega) (fun f hf=>(id f hf).1)
 exact h.wkArgs (.cons (.refl _) (.cons wd (.refl _)))
end Go.Sym
