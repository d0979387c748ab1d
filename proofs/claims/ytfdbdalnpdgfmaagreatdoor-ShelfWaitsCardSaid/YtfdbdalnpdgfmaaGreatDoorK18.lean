/- A list of expressions' text, parsed. -/
import Derived.Test.YtfdbdalnpdgfmaaGreatDoorK16
import Derived.Test.YtfdbdalnpdgfmaaGreatDoorK17
set_option linter.all false
set_option linter.unusedVariables false
set_option linter.unusedSimpArgs false
namespace Go.Sym
open Go Go.Proofs.Tryz
set_option maxRecDepth 100000
noncomputable def firstE:List (List UInt8)→Int
 | []=>0
 | p::r=>if parseE p≠0 then parseE p else firstE r
noncomputable def allE (s:List UInt8):Int:=if 4<(splitLC s).length then 5 else firstE (splitLC s)
noncomputable def allV (s:List UInt8):List Nd:=if allE s=0 then(splitLC s).map parseV else[]
theorem firstE_zero:∀ {l:List (List UInt8)},(∀ p∈l,parseE p=0)→firstE l=0
 | [],_=>rfl
 | p::r,h=>by rw[firstE,if_neg (by rw[h p (by simp)];simp),firstE_zero fun q hq=>h q (List.mem_cons_of_mem _ hq)]
theorem firstE_at:∀ {l:List (List UInt8)} {k:Nat} {p:List UInt8},l[k]?=some p→parseE p≠0→(∀ (j:Nat) q,j<k→l[j]?=some q→parseE q=0)→firstE l=parseE p
 | q::r,0,p,h,h1,_=>by simp at h;subst h;rw[firstE,if_pos h1]
 | q::r,k+1,p,h,h1,h2=>by
  rw[firstE,if_neg (by rw[h2 0 q (by omega) rfl];simp)]
  exact firstE_at (by simpa using h) h1 fun j x hj hx=>h2 (j+1) x (by omega) (by simpa using hx)
 | [],k,p,h,_,_=>by simp at h
theorem split_count:∀ l:List UInt8,(splitLC l).length=l.count 44+1
 | []=>rfl
 | c::r=>by
  have ih:=split_count r
  simp only [splitLC]
  by_cases h:c=44
  ·rw[if_pos h,List.length_cons,ih,h];simp
  ·rw[if_neg h,List.count_cons_of_ne h]
   have hne:=splitL_neC r
   split
   ·rename_i p ps hs
    rw[hs] at ih
    simpa using ih
   ·rename_i hs;exact absurd hs hne
theorem pieces_eq (s:List UInt8):piecesC (ofL s)=(splitLC s).map ofL:=rfl
theorem cnt_eq (s:List UInt8):cntC (ofL s)+1=(splitLC s).length:=by
 rw[split_count]
 simp only [cntC,Lib.countByte,toL_ofL]
 omega
theorem piece_len {s p:List UInt8} (h:p∈splitLC s):p.length≤s.length:=(splitL_lenC s).2 p h
noncomputable def accV (s:List UInt8) (i:Nat):List Nd:=((splitLC s).take i).map parseV
theorem accV_snoc (O:Opq) {s:List UInt8} {i:Nat} {p:List UInt8} (h:(splitLC s)[i]?=some p):O.o Nds.enc (accV s (i+1))=O.o Nds.enc (accV s i)++[(O.o parseV p).en O]:=by
 rw[O.h,O.h,accV,List.take_add_one,h,List.map_append,Nds.enc_append]
 congr 1
 rw[show(Option.some p).toList=[p] from rfl,List.map_cons,List.map_nil,Nds.en_eq O];rfl
theorem roomN {n m:Nat} {x:List PV} (h:n≤4) (hm:m≤1000):(n+[x].length) * m≤2 ^ 44∧n+[x].length≤2 ^ 60:=by
 have:(n+[x].length) * m≤5 * 1000:=Nat.mul_le_mul (by simp;omega) hm
 exact⟨Nat.le_trans this (by decide),by simp;omega⟩
set_option maxHeartbeats 1000000 in
theorem eall_fn (O:Opq) (s:List UInt8) (hl:s.length≤1099511627776):Fn prog 12 [.str (O.o ofL s)] [] [.sl false 0 false 4 (O.o Nds.enc (O.o allV s)),.int .i64 (O.o allE s)] []:=by
 have e1:O.o Nds.enc []=[]:=Nds.nil O
 have hsz:(O.o ofL s).size≤1099511627776:=by rw[O.h,size_ofL];exact hl
 have kc:=count_fnM O (O.o ofL s) comma rfl
 have ks:=split_fnC O (O.o ofL s) comma rfl hsz
 obtain⟨n,hn⟩:∃ n:Int,n=O.o cntC (O.o ofL s):=⟨_,rfl⟩
 have hn1:n+1=(splitLC s).length:=by rw[hn];simp only [O.h];exact cnt_eq s
 obtain⟨P,hP⟩:∃ P,P=O.o piecesC (O.o ofL s):=⟨_,rfl⟩
 have hP1:P=(splitLC s).map ofL:=by rw[hP];simp only [O.h];exact pieces_eq s
 obtain⟨D,hD⟩:∃ D,D=splitLC s:=⟨_,rfl⟩
 have hPl:(O.o Strs P).length=D.length:=by rw[O.h,Strs_len,hP1,List.length_map,hD]
 rw[← hn] at kc
 rw[← hP] at ks
 obtain⟨S,hS⟩:∃ S,S=O.o ofL s:=⟨_,rfl⟩
 rw[← hS] at kc ks ⊢
 have hnil:∀ {e:Int},e≠0→allE s=e→O.o allE s=e∧O.o Nds.enc (O.o allV s)=[]:=fun {e} h0 h=>by
  rw[O.h allE,O.h allV]
  exact⟨h,by rw[allV,if_neg (by rw[h];exact h0)];exact e1⟩
 have hD0:0<D.length:=by rw[hD,split_count];omega
 rw[← hD] at hn1
 by_cases h4:4<D.length
 ·obtain⟨q1,q2⟩:=hnil (e:=5) (by decide) (by rw[allE,if_pos (by rw[← hD];exact h4)])
  rw[q1,q2]
  clear hnil hP hP1 hn hS ks
  refine go (fn:=Proofs.Tryz.f12) (n:=32) (rv:=[ResultVar.tmp 2,ResultVar.tmp 3]) rfl (by decide) rfl (by decide +kernel) rfl rfl (by simp) fun F L C=>?_
  cbv
  (repeat' first|(refine Na ?_ fun _ _=>?_;(focus lia);cbv)|(refine CallThen.mk _ _ (C.fn (kc)) ?_;cbv)|(refine Nl fun _ _ hq=>?_;(try simp only [lenS] at hq);cbv)|(refine Nm fun _ _=>?_;cbv)|(refine Br.t ?_ ?_;(focus first|assumption|lia);cbv)|(refine Br.f ?_ ?_;(focus first|assumption|lia);cbv)|(refine Br.mk (fun _=>?_) (fun _=>?_)<;>cbv)|(refine Need.mk ?_ ?_;rotate_left;cbv)|(refine R0 ?_;cbv))
  all_goals first
   | exact⟨rfl,trivial⟩
   | (exfalso;clear kc;lia)
   | trace_state
 have hAE:allE s=firstE D:=by rw[allE,if_neg (by rw[← hD];exact h4),← hD]
 obtain⟨z,hz⟩:∃ z:Nat,z=0:=⟨_,rfl⟩
 obtain⟨N,hN⟩:∃ N:Nat,N=D.length:=⟨_,rfl⟩
 have hz0:O.o Nds.enc (accV s z)=[]:=by rw[hz];exact e1
 have hz1:O.o Nds.enc (O.o (accV s) z)=[]:=by rw[O.h (accV s)];exact hz0
 clear hz0 hn hP hS
 refine go (fn:=Proofs.Tryz.f12) (n:=32) (rv:=[ResultVar.tmp 2,ResultVar.tmp 3]) rfl (by decide) rfl (by decide +kernel) rfl rfl (by simp) fun F L C=>?_
 cbv
 (repeat' first|(refine Na ?_ fun _ _=>?_;(focus lia);cbv)|(refine CallThen.mk _ _ (C.fn (kc)) ?_;cbv)|(refine CallThen.mk _ _ (C.fn (ks)) ?_;cbv)|(refine Nl fun _ _ hq=>?_;(try simp only [lenS] at hq);cbv)|(refine Nm fun _ _=>?_;cbv)|(refine Br.t ?_ ?_;(focus first|assumption|lia);cbv)|(refine Br.f ?_ ?_;(focus first|assumption|lia);cbv)|(refine Br.mk (fun _=>?_) (fun _=>?_)<;>cbv)|(refine Need.mk ?_ ?_;rotate_left;cbv)|(refine R0 ?_;cbv))
 all_goals try(exfalso;clear kc ks hz1;lia)
 refine LoopThen.mk (C.loopAt (ι:=Nat) [(2,4),(6,8),(15,31)] (fun i=>[(2,.nils),(3,.int .i64 0),(4,.ref 50),(15,.int .i64 i)]) (fun i=>[(50,.arr 0 none 4 (O.o Nds.enc (O.o (accV s) i)))])
  (fun i=>i≤N∧∀ (j:Nat) q,j<i→D[j]?=some q→parseE q=0) (fun i=>N-i) (by decide +kernel) (Start.mk z [(50,.nil 4)] [] ⟨by omega,fun j q hj=>by omega⟩ ?_) ?_)
 ·cbv
  (repeat' apply And.intro)<;>first|exact True.intro|exact WkR.refl _|rfl|exact hz1|(clear kc ks hz1;lia)|trace_state
 intro i g
 cbv
 have g1:i≤N:=g.1
 have g2:=g.2
 clear g hz1
 by_cases hi:i<D.length
 ·obtain⟨p,hp⟩:∃ p,D[i]?=some p:=⟨D[i],by simp [hi]⟩
  have hpm:P[i]?=some (O.o ofL p):=by rw[hP1,← hD,List.getElem?_map,hp,O.h];rfl
  have hpl:p.length≤s.length:=piece_len (by rw[← hD];exact List.mem_of_getElem? hp)
  have kp:=eparse_fn O p (by omega)
  by_cases he:parseE p=0
  ·rw[show O.o parseE p=0 by rw[O.h];exact he] at kp
   have hst:∀ (j:Nat) q,j<i+1→D[j]?=some q→parseE q=0:=fun j q hj hq=>by
    by_cases ej:j=i
    ·subst ej;rw[hp] at hq;cases hq;exact he
    ·exact g2 j q (by omega) hq
   have hsn:=accV_snoc O (s:=s) (i:=i) (by rw[← hD];exact hp)
   rw[show accV s (i+1)=O.o (accV s) (i+1) by rw[O.h],show accV s i=O.o (accV s) i by rw[O.h]] at hsn
   have hal:(O.o Nds.enc (O.o (accV s) i)).length≤4:=by
    rw[Nds.en_len,O.h,accV,List.length_map,List.length_take];omega
   obtain⟨x,hx⟩:∃ x,x=O.o parseV p:=⟨_,rfl⟩
   rw[← hx] at kp hsn
   obtain⟨A1,hA1⟩:∃ A,A=O.o Nds.enc (O.o (accV s) (i+1)):=⟨_,rfl⟩
   clear hx g2 hnil hAE kc ks hP1
   obtain⟨k,t,nn,l⟩:=x
   (repeat' first|(refine Na ?_ fun _ _=>?_;(focus lia);cbv)|(refine Ex.known O strW rfl hpm ?_ ?_;(focus lia);cbv)|(refine CallThen.mk _ _ (C.fn (kp)) ?_;cbv)|(refine Back.to (i+1) [(50,.loc 2048)] [] ?_ fun _ _=>?_;rotate_left;cbv)|(refine Nl fun _ _ hq=>?_;(try simp only [lenS] at hq);cbv)|(refine Nm fun _ _=>?_;cbv)|(refine Br.t ?_ ?_;(focus first|assumption|lia);cbv)|(refine Br.f ?_ ?_;(focus first|assumption|lia);cbv)|(refine Br.mk (fun _=>?_) (fun _=>?_)<;>cbv)|(refine Need.mk ?_ ?_;rotate_left;cbv)|(refine R0 ?_;cbv))
   all_goals first
    | exact roomN hal (by decide)
    | exact⟨⟨by omega,hst⟩,by show N-(i+1)<N-i;omega⟩
    | (rename_i R eR q eq y ey;subst ey;refine⟨.of_eq (hsn.trans eR.symm),.refl _,?_,trivial⟩;clear hpm kp hsn hst;lia)
    | (exfalso;clear hpm kp hsn hst;lia)
    | trace_state
  ·have hAE2:firstE D=parseE p:=firstE_at hp he g2
   obtain⟨q1,q2⟩:=hnil he (by rw[hAE,hAE2])
   rw[q1,q2]
   obtain⟨v,hv⟩:∃ v,v=parseE p:=⟨_,rfl⟩
   rw[show O.o parseE p=v by rw[O.h,hv]] at kp
   rw[← hv] at he ⊢
   obtain⟨x,hx⟩:∃ x,x=O.o parseV p:=⟨_,rfl⟩
   rw[← hx] at kp
   clear hx g2 hnil hAE kc ks hP1 hAE2 q1 q2 hv
   obtain⟨k,t,nn,l⟩:=x
   (repeat' first|(refine Na ?_ fun _ _=>?_;(focus lia);cbv)|(refine Ex.known O strW rfl hpm ?_ ?_;(focus lia);cbv)|(refine CallThen.mk _ _ (C.fn (kp)) ?_;cbv)|(refine Nl fun _ _ hq=>?_;(try simp only [lenS] at hq);cbv)|(refine Nm fun _ _=>?_;cbv)|(refine Br.t ?_ ?_;(focus first|assumption|lia);cbv)|(refine Br.f ?_ ?_;(focus first|assumption|lia);cbv)|(refine Br.mk (fun _=>?_) (fun _=>?_)<;>cbv)|(refine Need.mk ?_ ?_;rotate_left;cbv)|(refine R0 ?_;cbv))
   all_goals first
    | exact⟨rfl,trivial⟩
    | (exfalso;clear hpm kp;lia)
    | (exfalso;exact he (by assumption))
    | trace_state
 ·have hA0:allE s=0:=by rw[hAE];exact firstE_zero fun p hp=>by obtain⟨j,hj,rfl⟩:=List.getElem_of_mem hp;exact g2 j _ (by omega) (by simp)
  have q1:O.o allE s=0:=by rw[O.h];exact hA0
  have q2:O.o Nds.enc (O.o allV s)=O.o Nds.enc (O.o (accV s) i):=by
   rw[O.h allV,O.h (accV s),allV,if_pos hA0,accV,List.take_of_length_le (by rw[← hD];omega)]
  rw[q1,q2]
  clear g2 hnil hAE kc ks hP1 q1 q2
  (repeat' first|(refine Na ?_ fun _ _=>?_;(focus lia);cbv)|(refine RetThen.mk [] [50] ?_;cbv)|(refine Nl fun _ _ hq=>?_;(try simp only [lenS] at hq);cbv)|(refine Nm fun _ _=>?_;cbv)|(refine Br.t ?_ ?_;(focus first|assumption|lia);cbv)|(refine Br.f ?_ ?_;(focus first|assumption|lia);cbv)|(refine Br.mk (fun _=>?_) (fun _=>?_)<;>cbv)|(refine Need.mk ?_ ?_;rotate_left;cbv)|(refine R0 ?_;cbv))
  all_goals first
   | exact⟨.of_eq (by symm;assumption),trivial⟩
   | (exfalso;lia)
   | trace_state
open Go
theorem take_snoc {α:Type} {s:List α} {i:Nat} {x:α} (h:s[i]?=some x):s.take (i+1)=s.take i++[x]:=by
 rw[List.take_add_one,h];rfl
theorem getD_some {s:List UInt8} {i:Nat} (h:i<s.length):s[i]?=some (s.getD i 0):=by
 simp [List.getD_eq_getElem?_getD,h]
def netI (s:List UInt8) (i:Nat):Int:=net (s.take i)
theorem net_abs:∀ s:List UInt8,-(s.length:Int)≤net s∧net s≤s.length
 | []=>by simp [net]
 | c::r=>by
  have:=net_abs r
  simp only [net,List.length_cons,parV]
  split
  ·omega
  ·split<;>omega
theorem netI_abs (s:List UInt8) (i:Nat):-(s.length:Int)≤netI s i∧netI s i≤s.length:=by
 have:=net_abs (s.take i)
 have h:(s.take i).length≤s.length:=by rw[List.length_take];omega
 rw[netI];omega
theorem u8_int {c:UInt8} {k:Nat} (hk:k<256):(c.toNat:Int)=k ↔ c=UInt8.ofNat k:=by
 constructor
 ·intro h;exact UInt8.toNat_inj.1 (by simp;omega)
 ·rintro rfl;simp;omega
theorem net_cases {s:List UInt8} {i:Nat} {v:Int} (h:i<s.length) (hv:v=((s.getD i 0).toNat:Int)) :
  (v=40∧netI s (i+1)=netI s i+1)∨(v=41∧netI s (i+1)=netI s i-1)∨(¬ v=40∧¬ v=41∧netI s (i+1)=netI s i):=by
 rw[netI,netI,take_snoc (getD_some h),net_append,net_cons,net_nil,hv]
 generalize s.getD i 0=d
 have h1:=u8_int (c:=d) (k:=40) (by decide)
 have h2:=u8_int (c:=d) (k:=41) (by decide)
 simp only [parV]
 by_cases e1:d=40
 ·rw[if_pos e1];left;exact⟨h1.2 e1,by omega⟩
 ·rw[if_neg e1]
  by_cases e2:d=41
  ·rw[if_pos e2];right;left;exact⟨h2.2 e2,by omega⟩
  ·rw[if_neg e2];right;right;exact⟨fun k=>e1 (h1.1 k),fun k=>e2 (h2.1 k),by omega⟩
def lastI (c:UInt8) (s:List UInt8) (i:Nat):Int:=match lastN c (s.take i) with
 | some k=>k
 | none=>-1
theorem last_cases {c:UInt8} {s:List UInt8} {i:Nat} {v cv:Int} (hc:parV c=0) (h:i<s.length) (hv:v=((s.getD i 0).toNat:Int)) (hcv:cv=c.toNat) :
  (v=cv∧netI s (i+1)=0∧lastI c s (i+1)=i)∨(¬ (v=cv∧netI s (i+1)=0)∧lastI c s (i+1)=lastI c s i):=by
 rw[netI,lastI,lastI,take_snoc (getD_some h),net_append,net_cons,net_nil,hv,hcv,lastN_snoc]
 generalize s.getD i 0=d
 have e:((d.toNat:Int)=c.toNat) ↔ d=c:=⟨fun k=>UInt8.toNat_inj.1 (by omega),fun k=>by rw[k]⟩
 rw[e]
 by_cases hd:d=c
 ·subst hd
  rw[hc]
  simp only [true_and,Int.add_zero]
  by_cases h0:net (s.take i)=0
  ·rw[if_pos h0];left;refine⟨h0,?_⟩
   simp only [List.length_take];omega
  ·rw[if_neg h0];right;exact⟨h0,rfl⟩
 ·rw[if_neg (fun k=>hd k.1)];right;exact⟨fun k=>hd k.1,rfl⟩
theorem lastI_end {c:UInt8} {s:List UInt8}:lastI c s s.length=match lastN c s with|some k=>(k:Int)|none=>-1:=by rw[lastI,List.take_length]
open Classical in
noncomputable def wholeD (s:List UInt8):Bool:=decide (wholeB s)
theorem whole_nets {s:List UInt8}:wholeB s ↔ netI s s.length=0∧2≤s.length∧∀ j,0<j→j<s.length→0<netI s j:=by
 unfold wholeB netI
 rw[List.take_length]
 refine and_congr_right fun _=>and_congr_right fun _=>⟨fun h j h0 h1=>?_,fun h p q e hp hq=>?_⟩
 ·refine h (s.take j) (s.drop j) (List.take_append_drop j s).symm (fun e=>?_) (fun e=>?_)
  ·have:=congrArg List.length e;rw[List.length_take,List.length_nil] at this;omega
  ·have:=congrArg List.length e;rw[List.length_drop,List.length_nil] at this;omega
 ·have h1:0<p.length:=List.length_pos_iff.2 hp
  have h2:0<q.length:=List.length_pos_iff.2 hq
  have h3:s.length=p.length+q.length:=by rw[e,List.length_append]
  have:=h p.length h1 (by omega)
  rwa [e,List.take_left] at this
open Classical in
theorem wholeD_no {s:List UInt8} {i:Nat} (h:netI s (i+1)≤0) (hi:i+1<s.length):wholeD s=false:=by
 rw[wholeD,decide_eq_false_iff_not,whole_nets]
 exact fun k=>by have:=k.2.2 (i+1) (by omega) hi;omega
open Classical in
theorem wholeD_end {s:List UInt8} (h:∀ j,0<j→j<s.length→0<netI s j):wholeD s=true ↔ netI s s.length=0∧2≤s.length:=by
 rw[wholeD,decide_eq_true_eq,whole_nets]
 exact⟨fun k=>⟨k.1,k.2.1⟩,fun k=>⟨k.1,k.2,h⟩⟩
def accD (k:Nat) (l:List Nd) (i:Nat):Int:=((l.take i).foldl (fun d a=>max d (depthN k a)) 0:Nat)
theorem accD_step {k:Nat} {l:List Nd} {i:Nat} {x:Nd} (h:l[i]?=some x):accD k l (i+1)=max (accD k l i) (depthN k x:Nat):=by
 rw[accD,take_snoc h,List.foldl_append,accD]
 simp only [List.foldl_cons,List.foldl_nil]
 omega
theorem depthN_le:∀ (k:Nat) (x:Nd),1≤depthN k x∧depthN k x≤k+1
 | 0,x=>by simp [depthN]
 | k+1,.mk _ _ _ l=>by
  rw[depthN]
  have:∀ (l:List Nd) (d:Nat),d≤k+1→l.foldl (fun d a=>max d (depthN k a)) d≤k+1:=by
   intro l
   induction l with
   | nil=>intro d hd;exact hd
   | cons a r ih=>intro d hd;exact ih _ (Nat.max_le.2 ⟨hd,(depthN_le k a).2⟩)
  have:=this l 0 (by omega)
  omega
theorem accD_le (k:Nat) (l:List Nd) (i:Nat):0≤accD k l i∧accD k l i≤k+1:=by
 rw[accD]
 have:∀ (l:List Nd) (d:Nat),d≤k+1→l.foldl (fun d a=>max d (depthN k a)) d≤k+1:=by
  intro l
  induction l with
  | nil=>intro d hd;exact hd
  | cons a r ih=>intro d hd;exact ih _ (Nat.max_le.2 ⟨hd,(depthN_le k a).2⟩)
 have:=this (l.take i) 0 (by omega)
 omega
def depthI (k:Nat) (x:Nd):Int:=(depthN k x:Nat)
theorem depthI_succ (k:Nat) {kk:Int} {t:List UInt8} {n:Int} {l:List Nd}:depthI (k+1) (.mk kk t n l)=accD k l l.length+1:=by
 rw[depthI,depthN,accD,List.take_length];simp
def digB1 (n:Nat):ByteArray:=ofL [UInt8.ofNat (48+n)]
theorem digB1_eq {n:Nat} (h:n<10):digB1 n=digitB.extract n (n+1):=by
 have:∀ k:Fin 10,digB1 k.val=digitB.extract k.val (k.val+1):=by decide +kernel
 exact this ⟨n,h⟩
theorem digN_lt {n:Nat} (h:n<10):ofL (digN n)=digB1 n:=by rw[digN,if_pos h];rfl
theorem digN_ge {n:Nat} (h:¬ n<10):ofL (digN n)=ofL (digN (n / 10))++ofL (digN (n % 10)):=by
 have e:digN (n % 10)=[UInt8.ofNat (48+n % 10)]:=by rw[digN,if_pos (by omega)]
 rw[digN,if_neg h,e]
 exact eq_of_toL (by simp [ofL])
end Go.Sym
