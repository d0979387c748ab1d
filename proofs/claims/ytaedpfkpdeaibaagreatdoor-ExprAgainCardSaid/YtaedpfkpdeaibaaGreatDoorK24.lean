/- Lists of expressions: their values (walks). -/
import Derived.Test.YtaedpfkpdeaibaaGreatDoorK23
set_option linter.all false
set_option linter.unusedVariables false
set_option linter.unusedSimpArgs false
namespace Go.Sym
open Go Go.Proofs.Tryz
set_option maxRecDepth 100000
def seqO {α β:Type} (f:α→Option β):List α→Option (List β)
 | []=>some []
 | x::r=>match f x with
  | none=>none
  | some v=>match seqO f r with
   | none=>none
   | some vs=>some (v::vs)
theorem seqO_append {α β:Type} (f:α→Option β):∀ (l:List α) (x:α),seqO f (l++[x])=match seqO f l with
  | none=>none
  | some vs=>(f x).map fun v=>vs++[v]
 | [],x=>by
  rw[List.nil_append,seqO,seqO,seqO]
  cases f x<;>rfl
 | y::l,x=>by
  rw[List.cons_append,seqO,seqO,seqO_append f l x]
  cases f y with
  | none=>rfl
  | some v =>
   cases seqO f l with
   | none=>rfl
   | some vs=>cases f x<;>rfl
theorem seqO_none {α β:Type} {f:α→Option β} {l:List α} {i:Nat} {x:α} (hx:l[i]?=some x) (hn:f x=none):seqO f l=none:=by
 induction l generalizing i with
 | nil=>simp at hx
 | cons y r ih =>
  rw[seqO]
  cases i with
  | zero =>
   simp at hx;subst hx
   rw[hn]
  | succ i =>
   rw[ih (by simpa using hx)]
   cases f y<;>rfl
theorem seqO_len {α β:Type} {f:α→Option β}:∀ {l:List α} {vs:List β},seqO f l=some vs→vs.length=l.length
 | [],vs,h=>by simp [seqO] at h;subst h;rfl
 | x::r,vs,h=>by
  rw[seqO] at h
  split at h
  ·cases h
  ·split at h
   ·cases h
   ·rename_i ws e
    cases h
    simp [seqO_len e]
def seqF {α β:Type} (f:α→Option β) (l:List α) (i:Nat):List β:=(seqO f (l.take i)).getD []
theorem seqF_succ {α β:Type} {f:α→Option β} {l:List α} {i:Nat} {x:α} {v:β} (hx:l[i]?=some x) (h:seqO f (l.take i)=some (seqF f l i)) (hv:f x=some v) :
  seqO f (l.take (i+1))=some (seqF f l (i+1))∧seqF f l (i+1)=seqF f l i++[v]:=by
 have e:seqO f (l.take (i+1))=some (seqF f l i++[v]):=by
  rw[List.take_add_one,hx,Option.toList_some,seqO_append,h,hv];rfl
 have e2:seqF f l (i+1)=seqF f l i++[v]:=by rw[seqF,e];rfl
 exact⟨by rw[e,e2],e2⟩
theorem seqF_zero {α β:Type} (f:α→Option β) (l:List α):seqF f l 0=[]∧seqO f (l.take 0)=some (seqF f l 0):=by
 have:seqO f (l.take 0)=some []:=by rw[List.take_zero,seqO]
 exact⟨by rw[seqF,this];rfl,by rw[seqF,this];rfl⟩
noncomputable def eallO (d:Doc) (l:List Nd):Option (List Val):=if l=[]∨4<l.length then none else seqO (evO d) l
noncomputable def eallL (d:Doc) (l:List Nd):List Val:=(eallO d l).getD []
noncomputable def eallB (d:Doc) (l:List Nd):Bool:=(eallO d l).isSome
theorem eall_no {d:Doc} {l:List Nd} (h:eallO d l=none):eallL d l=[]∧eallB d l=false:=by rw[eallL,eallB,h];exact⟨rfl,rfl⟩
theorem eall_yes {d:Doc} {l:List Nd} {vs:List Val} (h:eallO d l=some vs):eallL d l=vs∧eallB d l=true:=by rw[eallL,eallB,h];exact⟨rfl,rfl⟩
theorem ev_yes {d:Doc} {x:Nd} {v:Val} (h:evO d x=some v):evV d x=v∧evB d x=true:=by rw[evV,evB,h];exact⟨rfl,rfl⟩
theorem eevalall_no (O:Opq) (d:Doc) {l:List Nd} (hl:l.length≤1000000) (hb:l.length=0∨4<l.length):Fn prog 18 [.sl false 0 false 4 (O.o Nds.enc l),.sl false 0 false 6 (O.o Doc.enc d)] [] [.sl false 0 false 5 (O.o Vals.enc (O.o (eallL d) l)),.bool (O.o (eallB d) l)] []:=by
 rw[O.h (eallL d),O.h (eallB d)]
 have hlen:=Nds.en_len O l
 have hx0:eallO d l=none:=by rw[eallO,if_pos];simpa using hb
 obtain⟨e1,e2⟩:=eall_no hx0
 rw[e1,e2,show O.o Vals.enc []=[] by rw[O.h];rfl]
 clear hx0 e1 e2
 refine go (fn:=Proofs.Tryz.f18) (n:=37) (rv:=[ResultVar.tmp 4,ResultVar.tmp 5]) rfl (by decide) rfl (by decide +kernel) rfl rfl (by simp) fun F L C=>?_
 cbv
 (repeat' first|(refine Na ?_ fun _ _=>?_;(focus lia);cbv)|(refine Nl fun _ _ hq=>?_;(try simp only [lenS] at hq);cbv)|(refine Nm fun _ _=>?_;cbv)|(refine Br.t ?_ ?_;(focus first|assumption|lia);cbv)|(refine Br.f ?_ ?_;(focus first|assumption|lia);cbv)|(refine Br.mk (fun _=>?_) (fun _=>?_)<;>cbv)|(refine Need.mk ?_ ?_;rotate_left;cbv)|(refine R0 ?_;cbv))
 all_goals first
  | exact⟨rfl,rfl,trivial⟩
  | (exfalso;lia)
  | trace_state
set_option maxHeartbeats 4000000 in
theorem eevalall_in (O:Opq) (d:Doc) (hd:d.length≤1099511627776)  {l:List Nd} (hl:l.length≤1000000) (hx:∀ x∈l,NdS x) (hb:¬ (l.length=0∨4<l.length)):Fn prog 18 [.sl false 0 false 4 (O.o Nds.enc l),.sl false 0 false 6 (O.o Doc.enc d)] [] [.sl false 0 false 5 (O.o Vals.enc (O.o (eallL d) l)),.bool (O.o (eallB d) l)] []:=by
 rw[O.h (eallL d),O.h (eallB d)]
 have ih:∀ x∈l,Fn prog 13 [.agg (x.en O),.sl false 0 false 6 (O.o Doc.enc d)] [] [.agg (Val.enc (O.o (evV d) x)),.bool (O.o (evB d) x)] []:=fun x h=>eeval_fn O d hd (hx x h)
 have hlen:=Nds.en_len O l
 have hdef:¬ (l.length=0∨4<l.length)→eallO d l=seqO (evO d) l:=fun h=>by rw[eallO,if_neg];simpa using h
 have hdef0:(l.length=0∨4<l.length)→eallO d l=none:=fun h=>by rw[eallO,if_pos];simpa using h
 obtain⟨Q,hQ⟩:∃ Q,Q=eallL d l:=⟨_,rfl⟩
 obtain⟨T,hT⟩:∃ T,T=eallB d l:=⟨_,rfl⟩
 rw[← hQ,← hT]
 obtain⟨N,hN⟩:∃ N:Nat,N=l.length:=⟨_,rfl⟩
 rw[← hN] at hdef hdef0 hlen
 obtain⟨R,hR⟩:∃ R:Nat→List (List PV),R=fun i=>Vals.enc (seqF (evO d) l i):=⟨_,rfl⟩
 have hRl:∀ i,i≤N→seqO (evO d) (l.take i)=some (seqF (evO d) l i)→(R i).length=i:=fun i hi h=>by
  rw[hR];show(Vals.enc _).length=i
  rw[Vals.enc_len,seqO_len h,List.length_take];omega
 have hRs:∀ (i:Nat) a v,l[i]?=some a→seqO (evO d) (l.take i)=some (seqF (evO d) l i)→evO d a=some v→R (i+1)=R i++[v.enc]:=fun i a v h1 h2 h3=>by
  rw[hR];show Vals.enc _=Vals.enc _++_
  rw[(seqF_succ h1 h2 h3).2,Vals.enc,Vals.enc,List.map_append];rfl
 obtain⟨z,hz⟩:∃ z:Nat,z=0:=⟨_,rfl⟩
 have hRz:R z=[]:=by rw[hz,hR];show Vals.enc _=_;rw[(seqF_zero (evO d) l).1];rfl
 have h0:seqO (evO d) (l.take z)=some (seqF (evO d) l z):=by rw[hz];exact(seqF_zero (evO d) l).2
 clear hx
 rw[← hN] at hb
 refine go (fn:=Proofs.Tryz.f18) (n:=37) (rv:=[ResultVar.tmp 4,ResultVar.tmp 5]) rfl (by decide) rfl (by decide +kernel) rfl rfl (by simp) fun F L C=>?_
 cbv
 (repeat' first|(refine Na ?_ fun _ _=>?_;(focus lia);cbv)|(refine Nl fun _ _ hq=>?_;(try simp only [lenS] at hq);cbv)|(refine Nm fun _ _=>?_;cbv)|(refine Br.t ?_ ?_;(focus first|assumption|lia);cbv)|(refine Br.f ?_ ?_;(focus first|assumption|lia);cbv)|(refine Br.mk (fun _=>?_) (fun _=>?_)<;>cbv)|(refine Need.mk ?_ ?_;rotate_left;cbv)|(refine R0 ?_;cbv))
 refine LoopThen.mk (C.loopAt (ι:=Nat) [(4,6),(8,10),(21,37)] (fun i=>[(6,.ref 50),(21,.int .i64 i)]) (fun i=>[(50,.arr 0 none 5 (R i))])
  (fun i=>i≤N∧True∧seqO (evO d) (l.take i)=some (seqF (evO d) l i)) (fun i=>N-i) (by decide +kernel) (Start.mk z [(50,.nil 5)] [] ⟨by omega,by trivial,h0⟩ ?_) ?_)
 ·clear hRs hRl ih hQ hT hdef hdef0
  cbv
  (repeat' apply And.intro)<;>first|exact True.intro|exact WkR.refl _|rfl|(rw[hRz];exact WkR.refl _)|exact hRz|(clear hRz h0;lia)|trace_state
 intro i g
 cbv
 have g1:i≤N:=g.1
 have g3:True:=g.2.1
 have g2:seqO (evO d) (l.take i)=some (seqF (evO d) l i):=g.2.2
 clear g
 clear hRz h0
 by_cases hi:i<N
 ·obtain⟨a,ha⟩:∃ a,l[i]?=some a:=⟨l[i]'(by omega),List.getElem?_eq_getElem (by omega)⟩
  have hc:=ih a (List.mem_of_getElem? ha)
  have hRi:=hRl i g1 g2
  cases hva:evO d a with
  | none =>
   obtain⟨e1,e2⟩:=ev_no hva
   rw[O.h (evV d),O.h (evB d),e1,e2] at hc
   have hx0:eallO d l=none:=by
    by_cases hb:N=0∨4<N
    ·exact hdef0 hb
    ·rw[hdef hb];exact seqO_none ha hva
   obtain⟨e1,e2⟩:=eall_no hx0
   rw[← hQ] at e1;rw[← hT] at e2
   subst e1;subst e2
   have hVe:O.o Vals.enc []=[]:=by rw[O.h];rfl
   rw[hVe]
   clear hQ hT hRs hRl ih hva g2 hx0 hR hdef hdef0 hVe
   obtain⟨ak,at',an,al⟩:=a
   (repeat' first|(refine Na ?_ fun _ _=>?_;(focus lia);cbv)|(refine Ex.nd O ha ?_ ?_;(focus(clear hc;lia));cbv)|(refine CallThen.mk _ _ (C.fn (hc)) ?_;cbv)|(refine Nl fun _ _ hq=>?_;(try simp only [lenS] at hq);cbv)|(refine Nm fun _ _=>?_;cbv)|(refine Br.t ?_ ?_;(focus first|assumption|lia);cbv)|(refine Br.f ?_ ?_;(focus first|assumption|lia);cbv)|(refine Br.mk (fun _=>?_) (fun _=>?_)<;>cbv)|(refine Need.mk ?_ ?_;rotate_left;cbv)|(refine R0 ?_;cbv))
   all_goals first
    | exact⟨rfl,rfl,trivial⟩
    | exact⟨WkR.refl _,rfl,trivial⟩
    | (exfalso;clear hc;lia)
    | trace_state
  | some v =>
   obtain⟨e1,e2⟩:=ev_yes hva
   rw[O.h (evV d),O.h (evB d),e1,e2] at hc
   have hs:=hRs i a v ha g2 hva
   have hg:=(seqF_succ ha g2 hva).1
   clear hQ hT hRs hRl ih hva g2 hR hdef hdef0
   obtain⟨ak,at',an,al⟩:=a
   obtain⟨v1,v2,v3,v4,v5⟩:=v
   (repeat' first|(refine Na ?_ fun _ _=>?_;(focus lia);cbv)|(refine Ex.nd O ha ?_ ?_;(focus(clear hc hs hg;lia));cbv)|(refine CallThen.mk _ _ (C.fn (hc)) ?_;cbv)|(refine Back.up [(50,.loc 2432)] [] ?_ ?_ fun _ _=>?_;rotate_left 2;cbv;refine And.intro ?_ ?_)|(refine Nl fun _ _ hq=>?_;(try simp only [lenS] at hq);cbv)|(refine Nm fun _ _=>?_;cbv)|(refine Br.t ?_ ?_;(focus first|assumption|lia);cbv)|(refine Br.f ?_ ?_;(focus first|assumption|lia);cbv)|(refine Br.mk (fun _=>?_) (fun _=>?_)<;>cbv)|(refine Need.mk ?_ ?_;rotate_left;cbv)|(refine R0 ?_;cbv))
   all_goals(repeat' apply And.intro)
   all_goals try first
    | exact True.intro
    | exact WkR.refl _
    | rfl
    | exact hg
    | (clear hc hs hg;lia)
   all_goals try
    (rw[hRi];simp only [List.length_cons,List.length_nil];clear hc hs;omega)
   all_goals
    rename_i q hq1 _ _ k' hk'
    rw[hk',hq1]
    exact WkR.of_eq hs
 ·by_cases hb2:N=0∨4<N
  ·have hx0:eallO d l=none:=hdef0 (by omega)
   obtain⟨e1,e2⟩:=eall_no hx0
   rw[← hQ] at e1;rw[← hT] at e2
   subst e1;subst e2
   have hVe:O.o Vals.enc []=[]:=by rw[O.h];rfl
   rw[hVe]
   clear hQ hT hRs hRl ih g2 hx0 hR hdef hdef0 hVe
   (repeat' first|(refine Na ?_ fun _ _=>?_;(focus lia);cbv)|(refine Nl fun _ _ hq=>?_;(try simp only [lenS] at hq);cbv)|(refine Nm fun _ _=>?_;cbv)|(refine Br.t ?_ ?_;(focus first|assumption|lia);cbv)|(refine Br.f ?_ ?_;(focus first|assumption|lia);cbv)|(refine Br.mk (fun _=>?_) (fun _=>?_)<;>cbv)|(refine Need.mk ?_ ?_;rotate_left;cbv)|(refine R0 ?_;cbv))
   all_goals first
    | exact⟨rfl,rfl,trivial⟩
    | (exfalso;lia)
    | trace_state
  ·have htk:l.take i=l:=List.take_of_length_le (by omega)
   rw[htk] at g2
   have hx0:eallO d l=some (seqF (evO d) l i):=by rw[hdef (by omega),g2]
   obtain⟨e1,e2⟩:=eall_yes hx0
   rw[← hQ] at e1;rw[← hT] at e2
   have hRi:R i=O.o Vals.enc Q:=by rw[e1,O.h,hR]
   subst e2
   clear hQ hT hRs hRl ih g2 hx0 hR hdef hdef0 htk e1
   (repeat' first|(refine Na ?_ fun _ _=>?_;(focus lia);cbv)|(refine RetThen.mk [] [50] ?_;cbv)|(refine Nl fun _ _ hq=>?_;(try simp only [lenS] at hq);cbv)|(refine Nm fun _ _=>?_;cbv)|(refine Br.t ?_ ?_;(focus first|assumption|lia);cbv)|(refine Br.f ?_ ?_;(focus first|assumption|lia);cbv)|(refine Br.mk (fun _=>?_) (fun _=>?_)<;>cbv)|(refine Need.mk ?_ ?_;rotate_left;cbv)|(refine R0 ?_;cbv))
   all_goals first
    | exact⟨WkR.of_eq hRi.symm,rfl,trivial⟩
    | (exfalso;clear hRi;lia)
    | (rename_i q hq1;subst hq1;exact⟨WkR.of_eq hRi.symm,trivial⟩)
    | (rename_i q hq1;subst hq1;exact⟨WkR.of_eq hRi.symm,rfl,trivial⟩)
    | trace_state
theorem eevalall_fn (O:Opq) (d:Doc) (hd:d.length≤1099511627776) {l:List Nd} (hl:l.length≤1000000) (hx:∀ x∈l,NdS x):Fn prog 18 [.sl false 0 false 4 (O.o Nds.enc l),.sl false 0 false 6 (O.o Doc.enc d)] [] [.sl false 0 false 5 (O.o Vals.enc (O.o (eallL d) l)),.bool (O.o (eallB d) l)] []:=by
 by_cases hb:l.length=0∨4<l.length
 ·exact eevalall_no O d hl hb
 ·exact eevalall_in O d hd hl hx hb
set_option maxHeartbeats 4000000 in
theorem revalall_fn (O:Opq) (d:Doc) (hd:d.length≤1099511627776) (hs:∀ f∈d,f.path.size≤9223372036854775807) {l:List Nd} (hl:l.length≤1000000) (hx:∀ x∈l,NdS x) :Fn prog 19 [.sl false 0 false 4 (O.o Nds.enc l),.sl false 0 false 6 (O.o Doc.enc d)] [] [.sl false 0 false 5 (O.o Vals.enc (O.o (eallL d) l)),.bool (O.o (eallB d) l)] []:=by
 rw[O.h (eallL d),O.h (eallB d)]
 have ih:∀ x∈l,Fn prog 14 [.agg (x.en O),.sl false 0 false 6 (O.o Doc.enc d)] [] [.agg (Val.enc (O.o (evV d) x)),.bool (O.o (evB d) x)] []:=fun x h=>reval_fn O d hd hs (hx x h)
 have hlen:=Nds.en_len O l
 have hdef:¬ (l.length=0∨4<l.length)→eallO d l=seqO (evO d) l:=fun h=>by rw[eallO,if_neg];simpa using h
 have hdef0:(l.length=0∨4<l.length)→eallO d l=none:=fun h=>by rw[eallO,if_pos];simpa using h
 obtain⟨Q,hQ⟩:∃ Q,Q=eallL d l:=⟨_,rfl⟩
 obtain⟨T,hT⟩:∃ T,T=eallB d l:=⟨_,rfl⟩
 rw[← hQ,← hT]
 obtain⟨N,hN⟩:∃ N:Nat,N=l.length:=⟨_,rfl⟩
 rw[← hN] at hdef hdef0 hlen
 obtain⟨R,hR⟩:∃ R:Nat→List (List PV),R=fun i=>Vals.enc (seqF (evO d) l i):=⟨_,rfl⟩
 have hRl:∀ i,i≤N→seqO (evO d) (l.take i)=some (seqF (evO d) l i)→(R i).length=i:=fun i hi h=>by
  rw[hR];show(Vals.enc _).length=i
  rw[Vals.enc_len,seqO_len h,List.length_take];omega
 have hRs:∀ (i:Nat) a v,l[i]?=some a→seqO (evO d) (l.take i)=some (seqF (evO d) l i)→evO d a=some v→R (i+1)=R i++[v.enc]:=fun i a v h1 h2 h3=>by
  rw[hR];show Vals.enc _=Vals.enc _++_
  rw[(seqF_succ h1 h2 h3).2,Vals.enc,Vals.enc,List.map_append];rfl
 obtain⟨z,hz⟩:∃ z:Nat,z=0:=⟨_,rfl⟩
 have hRz:R z=[]:=by rw[hz,hR];show Vals.enc _=_;rw[(seqF_zero (evO d) l).1];rfl
 have h0:seqO (evO d) (l.take z)=some (seqF (evO d) l z):=by rw[hz];exact(seqF_zero (evO d) l).2
 clear hx
 skip
 refine go (fn:=Proofs.Tryz.f19) (n:=43) (rv:=[ResultVar.tmp 4,ResultVar.tmp 5]) rfl (by decide) rfl (by decide +kernel) rfl rfl (by simp) fun F L C=>?_
 cbv
 (repeat' first|(refine Na ?_ fun _ _=>?_;(focus lia);cbv)|(refine Nl fun _ _ hq=>?_;(try simp only [lenS] at hq);cbv)|(refine Nm fun _ _=>?_;cbv)|(refine Br.t ?_ ?_;(focus first|assumption|lia);cbv)|(refine Br.f ?_ ?_;(focus first|assumption|lia);cbv)|(refine Br.mk (fun _=>?_) (fun _=>?_)<;>cbv)|(refine Need.mk ?_ ?_;rotate_left;cbv)|(refine R0 ?_;cbv))
 refine LoopThen.mk (C.loopAt (ι:=Nat) [(4,9),(11,35)] (fun i=>[(6,.ref 50),(10,.top),(7,.int .i64 i)]) (fun i=>[(50,.arr 0 none 5 (R i))])
  (fun i=>i≤N∧i≤5∧seqO (evO d) (l.take i)=some (seqF (evO d) l i)) (fun i=>N-i) (by decide +kernel) (Start.mk z [(50,.loc 768)] [] ⟨by omega,by omega,h0⟩ ?_) ?_)
 ·clear hRs hRl ih hQ hT hdef hdef0
  cbv
  (repeat' apply And.intro)<;>first|exact True.intro|exact WkR.refl _|rfl|(rw[hRz];exact WkR.refl _)|exact hRz|(clear hRz h0;lia)|trace_state
 intro i g
 cbv
 have g1:i≤N:=g.1
 have g3:i≤5:=g.2.1
 have g2:seqO (evO d) (l.take i)=some (seqF (evO d) l i):=g.2.2
 clear g
 clear hRz h0
 by_cases hi:i<N∧i<5
 ·obtain⟨a,ha⟩:∃ a,l[i]?=some a:=⟨l[i]'(by omega),List.getElem?_eq_getElem (by omega)⟩
  have hc:=ih a (List.mem_of_getElem? ha)
  have hRi:=hRl i g1 g2
  cases hva:evO d a with
  | none =>
   obtain⟨e1,e2⟩:=ev_no hva
   rw[O.h (evV d),O.h (evB d),e1,e2] at hc
   have hx0:eallO d l=none:=by
    by_cases hb:N=0∨4<N
    ·exact hdef0 hb
    ·rw[hdef hb];exact seqO_none ha hva
   obtain⟨e1,e2⟩:=eall_no hx0
   rw[← hQ] at e1;rw[← hT] at e2
   subst e1;subst e2
   have hVe:O.o Vals.enc []=[]:=by rw[O.h];rfl
   rw[hVe]
   clear hQ hT hRs hRl ih hva g2 hx0 hR hdef hdef0 hVe
   obtain⟨ak,at',an,al⟩:=a
   (repeat' first|(refine Na ?_ fun _ _=>?_;(focus lia);cbv)|(refine Ex.nd O ha ?_ ?_;(focus(clear hc;lia));cbv)|(refine CallThen.mk _ _ (C.fn (hc)) ?_;cbv)|(refine Nl fun _ _ hq=>?_;(try simp only [lenS] at hq);cbv)|(refine Nm fun _ _=>?_;cbv)|(refine Br.t ?_ ?_;(focus first|assumption|lia);cbv)|(refine Br.f ?_ ?_;(focus first|assumption|lia);cbv)|(refine Br.mk (fun _=>?_) (fun _=>?_)<;>cbv)|(refine Need.mk ?_ ?_;rotate_left;cbv)|(refine R0 ?_;cbv))
   all_goals first
    | exact⟨rfl,rfl,trivial⟩
    | exact⟨WkR.refl _,rfl,trivial⟩
    | (exfalso;clear hc;lia)
    | trace_state
  | some v =>
   obtain⟨e1,e2⟩:=ev_yes hva
   rw[O.h (evV d),O.h (evB d),e1,e2] at hc
   have hs:=hRs i a v ha g2 hva
   have hg:=(seqF_succ ha g2 hva).1
   clear hQ hT hRs hRl ih hva g2 hR hdef hdef0
   obtain⟨ak,at',an,al⟩:=a
   obtain⟨v1,v2,v3,v4,v5⟩:=v
   (repeat' first|(refine Na ?_ fun _ _=>?_;(focus lia);cbv)|(refine Ex.nd O ha ?_ ?_;(focus(clear hc hs hg;lia));cbv)|(refine CallThen.mk _ _ (C.fn (hc)) ?_;cbv)|(refine Back.up [(50,.loc 2368)] [] ?_ ?_ fun _ _=>?_;rotate_left 2;cbv;refine And.intro ?_ ?_)|(refine Nl fun _ _ hq=>?_;(try simp only [lenS] at hq);cbv)|(refine Nm fun _ _=>?_;cbv)|(refine Br.t ?_ ?_;(focus first|assumption|lia);cbv)|(refine Br.f ?_ ?_;(focus first|assumption|lia);cbv)|(refine Br.mk (fun _=>?_) (fun _=>?_)<;>cbv)|(refine Need.mk ?_ ?_;rotate_left;cbv)|(refine R0 ?_;cbv))
   all_goals(repeat' apply And.intro)
   all_goals try first
    | exact True.intro
    | exact WkR.refl _
    | rfl
    | exact hg
    | (clear hc hs hg;lia)
   all_goals try
    (rw[hRi];simp only [List.length_cons,List.length_nil];clear hc hs;omega)
   all_goals
    rename_i q hq1 _ _ k' hk'
    rw[hk',hq1]
    exact WkR.of_eq hs
 ·by_cases hb2:N=0∨4<N
  ·have hx0:eallO d l=none:=hdef0 (by omega)
   obtain⟨e1,e2⟩:=eall_no hx0
   rw[← hQ] at e1;rw[← hT] at e2
   subst e1;subst e2
   have hVe:O.o Vals.enc []=[]:=by rw[O.h];rfl
   rw[hVe]
   clear hQ hT hRs hRl ih g2 hx0 hR hdef hdef0 hVe
   (repeat' first|(refine Na ?_ fun _ _=>?_;(focus lia);cbv)|(refine Nl fun _ _ hq=>?_;(try simp only [lenS] at hq);cbv)|(refine Nm fun _ _=>?_;cbv)|(refine Br.t ?_ ?_;(focus first|assumption|lia);cbv)|(refine Br.f ?_ ?_;(focus first|assumption|lia);cbv)|(refine Br.mk (fun _=>?_) (fun _=>?_)<;>cbv)|(refine Need.mk ?_ ?_;rotate_left;cbv)|(refine R0 ?_;cbv))
   all_goals first
    | exact⟨rfl,rfl,trivial⟩
    | (exfalso;lia)
    | trace_state
  ·have htk:l.take i=l:=List.take_of_length_le (by omega)
   rw[htk] at g2
   have hx0:eallO d l=some (seqF (evO d) l i):=by rw[hdef (by omega),g2]
   obtain⟨e1,e2⟩:=eall_yes hx0
   rw[← hQ] at e1;rw[← hT] at e2
   have hRi:R i=O.o Vals.enc Q:=by rw[e1,O.h,hR]
   subst e2
   clear hQ hT hRs hRl ih g2 hx0 hR hdef hdef0 htk e1
   (repeat' first|(refine Na ?_ fun _ _=>?_;(focus lia);cbv)|(refine RetThen.mk [] [50] ?_;cbv)|(refine Nl fun _ _ hq=>?_;(try simp only [lenS] at hq);cbv)|(refine Nm fun _ _=>?_;cbv)|(refine Br.t ?_ ?_;(focus first|assumption|lia);cbv)|(refine Br.f ?_ ?_;(focus first|assumption|lia);cbv)|(refine Br.mk (fun _=>?_) (fun _=>?_)<;>cbv)|(refine Need.mk ?_ ?_;rotate_left;cbv)|(refine R0 ?_;cbv))
   all_goals first
    | exact⟨WkR.of_eq hRi.symm,rfl,trivial⟩
    | (exfalso;clear hRi;lia)
    | (rename_i q hq1;subst hq1;exact⟨WkR.of_eq hRi.symm,trivial⟩)
    | (rename_i q hq1;subst hq1;exact⟨WkR.of_eq hRi.symm,rfl,trivial⟩)
    | trace_state
def Xp.str (e:Xp):List UInt8:=e.txt digN
theorem parse0_of {s:List UInt8} {e:Xp} (h:Der lexE.toLex 2 s e) (hl:s.length≤256):parse0 s=(e.nd,[],false):=parse_some (L:=lexT) (by omega) h
theorem parse_of {s:List UInt8} {e:Xp} (h:Der lexE.toLex 2 s e) (hl:s.length≤256) (hd:deepB 8 e.nd=false):parseE s=0∧parseV s=e.nd:=by
 have hp:=parse0_of h hl
 have hE:parseE s=0:=by rw[parseE,if_neg (by omega),if_neg (by rw[hp];simp),if_neg (by rw[hp];simp [hd])]
 exact⟨hE,by rw[parseV,if_pos hE,hp]⟩
theorem str_der {e:Xp} (h:e.Ok lexE):Der lexE.toLex 2 e.str e:=(txt_der h).up (Xp.lvl_le e)
theorem parse_str {e:Xp} (h:e.Ok lexE) (hl:e.str.length≤256) (hd:deepB 8 e.nd=false):parseE e.str=0∧parseV e.str=e.nd:=parse_of (str_der h) hl hd
theorem parse_made {s:List UInt8} (h:parseE s=0):∃ e:Xp,e.Ok lexE∧Der lexE.toLex 2 s e∧parseV s=e.nd∧deepB 8 e.nd=false∧s.length≤256:=by
 have h0:=h
 unfold parseE at h
 split at h
 ·cases h
 ·rename_i hl
  split at h
  ·cases h
  ·rename_i hp
   split at h
   ·cases h
   ·rename_i hd
    obtain⟨e,hder,he⟩:=parse0_nd (Classical.not_not.1 hp)
    have hder:Der lexE.toLex 2 s e:=hder
    exact⟨e,der_ok hder,hder,by rw[parseV,if_pos h0,he],by rw[← he];simpa using hd,by omega⟩
theorem made_chk {e:Xp} (h:e.Ok lexE) (hd:deepB 8 e.nd=false):chkE e.nd=0:=chkE_ok.2 ⟨hd,made_nd h⟩
theorem chk_made {x : Nd} (h : chkE x = 0) : ∃ e : Xp, e.Ok lexE ∧ x = e.nd ∧ deepB 8 e.nd = false := by
  obtain ⟨h1, h2⟩ := chkE_ok.1 h
  obtain ⟨e, he, rfl⟩ := nd_made h2
  exact ⟨e, he, rfl, h1⟩
/-! ### The law's small question -/
def wP:List UInt8:=[112]
def askX:Xp:=.sum (.call nNorm (.mul (.path wP) (.path wP))) (.num 1)
def askT:List UInt8:=[110,111,114,109,40,112,42,112,41,43,49]
theorem askX_ok:askX.Ok lexE:=by
 have hp:(Xp.path wP).Ok lexE:=.path (by show leafL wP=some (.path wP);exact leaf_path (by decide) (by decide))
 exact .sum (.call (by show nameL nNorm=true;decide) (.mul hp hp)) (.num (by show leafL (digN 1)=_;exact leaf_num (by decide)))
theorem askX_str:askX.str=askT:=by
 have h1:digN 1=[49]:=by rw[digN];rfl
 show Xp.txt digN askX=askT
 simp only [askX,Xp.txt,h1,inPar,Xp.lvl,wP,nNorm,askT]
 rfl
theorem ask_parse:parseE askT=0∧parseV askT=askX.nd:=by
 have:=parse_str askX_ok (by rw[askX_str];decide) (by decide +kernel)
 rwa [askX_str] at this
def pB:ByteArray:=⟨#[112]⟩
def askD:Doc:=[⟨pB,pointV 1 2⟩]
theorem askD_may:may askD=true:=may_true (by decide) (fun i hi=>by
 have:i=0:=by simp [askD] at hi;omega
 subst this
 exact⟨_,rfl,by decide,pointV_ok.2 (by decide),fun h=>absurd h (by decide)⟩)
theorem ask_get:getB askD (ofL wP)=true∧getV askD (ofL wP)=pointV 1 2:=by
 have e:ofL wP=pB:=rfl
 have hh:hasP pB ⟨pB,pointV 1 2⟩=true:=by simp [hasP]
 rw[e]
 exact⟨by simp [getB,askD,hh],by simp [getV,askD,hh]⟩
theorem ask_val:valO askD askX.nd=some (numV 26):=by
 have hv:valO askD (.mk 1 wP 0 [])=some (pointV 1 2):=by
  rw[valO,valsO]
  refine okV_some.2 ⟨?_,pointV_ok.2 (by decide)⟩
  unfold rawO
  rw[if_pos rfl,if_pos ask_get.1,ask_get.2]
 have hm:valO askD (.mk 4 [] 0 [.mk 1 wP 0 [],.mk 1 wP 0 []])=some (pointV (-3) 4):=by
  rw[valO,valsO,hv]
  simp only [valsO,hv]
  exact okV_some.2 ⟨by simp [rawO,twoO,pointV,asP,mulP],pointV_ok.2 (by decide)⟩
 have hc:valO askD (.mk 5 nNorm 0 [.mk 4 [] 0 [.mk 1 wP 0 [],.mk 1 wP 0 []]])=some (numV 25):=by
  rw[valO,valsO,hm]
  simp only [valsO]
  exact okV_some.2 ⟨by simp [rawO,callO,pointV],numV_ok.2 (by decide)⟩
 have hn:valO askD (.mk 2 [] 1 [])=some (numV 1):=by
  rw[valO,valsO]
  exact okV_some.2 ⟨by simp [rawO],numV_ok.2 (by decide)⟩
 show valO askD (.mk 3 [] 0 [.mk 5 nNorm 0 [.mk 4 [] 0 [.mk 1 wP 0 [],.mk 1 wP 0 []]],.mk 2 [] 1 []])=_
 rw[valO,valsO,hc]
 simp only [valsO,hn]
 exact okV_some.2 ⟨by simp [rawO,twoO,numV],numV_ok.2 (by decide)⟩
theorem ask_ev:evV askD askX.nd=numV 26∧evB askD askX.nd=true:=by
 refine ev_yes ?_
 rw[evO,if_pos (made_chk askX_ok (by decide +kernel)),if_pos askD_may]
 exact ask_val
theorem ok_small {e:Xp} (h:e.Ok lexE):NdS e.nd:=by
 induction h with
 | @path w h =>
  have h:leafL w=some (.path w):=h
  refine .mk (by simp) ?_ (by simp)
  unfold leafL at h
  split at h
  ·split at h<;>cases h
  ·split at h
   ·rename_i k
    simp only [pathL,Bool.and_eq_true,decide_eq_true_eq] at k
    omega
   ·cases h
 | num h=>exact .mk (by simp) (by simp) (by simp)
 | sum _ _ ih jh=>exact .mk (by simp) (by simp) (fun x hx=>by simp at hx;rcases hx with rfl|rfl<;>assumption)
 | mul _ _ ih jh=>exact .mk (by simp) (by simp) (fun x hx=>by simp at hx;rcases hx with rfl|rfl<;>assumption)
 | @call w a h _ ih =>
  have h:nameL w=true:=h
  refine .mk (by simp) ?_ (fun x hx=>by simp at hx;subst hx;assumption)
  rcases name_cases h with rfl|rfl|rfl|rfl|rfl<;>decide
end Go.Sym
