/- Cells' bytes, by the document. -/
import Derived.Test.YtfkigahipkndgaaGreatDoorJ14
set_option linter.all false
set_option linter.unusedVariables false
set_option linter.unusedSimpArgs false
namespace Go.Sym
open Go Go.Proofs.Tryz
set_option maxRecDepth 100000
theorem rnum_fn (O:Opq) (n:Nat):n<4611686018427387904→∀ w:Int,w=n→Fn prog 364 [.int .i64 w] [] [.sl false 0 false 1 (O.o bts (O.o numB n))] []:=by
 induction n using Nat.strongRecOn with
 | _ n ih =>
  intro hn w hw
  have hlo:n<128→O.o bts (O.o numB n)=[[.int .u8 w]]:=fun h=>by
   have:=bts_snoc O [] (n:=n) (by omega) hw
   simp only [O.h] at this ⊢
   rw[numB_lo h];exact this
  have hhi:¬ n<128→∀ {v:Int},v=((n % 128+128:Nat):Int)→O.o bts (O.o numB n)=[[.int .u8 v]]++O.o bts (O.o numB (n / 128)):=fun h v hv=>by
   have:=bts_snoc O [] (n:=n % 128+128) (by omega) hv
   simp only [O.h] at this ⊢
   rw[numB_hi h,← List.singleton_append,bts_append]
   rw[show bts [UInt8.ofNat (n % 128+128)]=bts ([]++[UInt8.ofNat (n % 128+128)]) from rfl,this];rfl
  have hl:(O.o bts (O.o numB (n / 128))).length≤9:=by
   rw[O.h,O.h,bts_len];exact numB_len (k:=8) (by omega)
  obtain⟨Q,eQ⟩:∃ Q,Q=O.o bts (O.o numB n):=⟨_,rfl⟩
  rw[← eQ] at hlo hhi ⊢
  clear eQ
  by_cases h:n<128
  ·have hlo:=hlo h
   clear ih hhi
   refine go (fn:=Proofs.Tryz.f364) (n:=16) (rv:=[ResultVar.tmp 2]) rfl (by decide) rfl (by decide +kernel) rfl rfl (by simp) fun F L C=>?_
   cbv
   (repeat' first|(refine Na ?_ fun _ _=>?_;(focus lia);cbv)|(refine Named.w8s ?_ fun _ _=>?_;(focus lia);cbv)|(refine RetThen.mk [] [576] ?_;cbv)|(refine Nl fun _ _ hq=>?_;(try simp only [lenS] at hq);cbv)|(refine Nm fun _ _=>?_;cbv)|(refine Br.t ?_ ?_;(focus first|assumption|lia);cbv)|(refine Br.f ?_ ?_;(focus first|assumption|lia);cbv)|(refine Br.mk (fun _=>?_) (fun _=>?_)<;>cbv)|(refine Need.mk ?_ ?_;rotate_left;cbv)|(refine R0 ?_;cbv))
   all_goals first
    | (exfalso;clear hlo;lia)
    | (refine⟨.of_eq ?_,trivial⟩;rw[hlo];subst_vars;rfl)
    | (refine Nm fun rs e=>⟨.of_eq ?_,by cbv⟩;rename_i v hv;rw[e,hlo,hv])
    | trace_state
  ·have ihh:=fun {w:Int} (hw:w=((n / 128:Nat):Int))=>ih (n / 128) (by omega) (by omega) w hw
   have hhi:=fun {v:Int}=>hhi h (v:=v)
   obtain⟨M,eM⟩:∃ M,M=O.o bts (O.o numB (n / 128)):=⟨_,rfl⟩
   rw[← eM] at hl hhi ihh
   clear ih hlo eM
   refine go (fn:=Proofs.Tryz.f364) (n:=16) (rv:=[ResultVar.tmp 2]) rfl (by decide) rfl (by decide +kernel) rfl rfl (by simp) fun F L C=>?_
   cbv
   (repeat' first|(refine Named.quo ?_ fun _ _=>?_;(focus lia);cbv)|(refine Na ?_ fun _ _=>?_;(focus lia);cbv)|(refine Named.w8s ?_ fun _ _=>?_;(focus lia);cbv)|(refine Named.rem ?_ fun _ _=>?_;(focus lia);cbv)|(refine CallThen.mk _ _ (C.fn (ihh (by clear hhi;lia))) ?_;cbv)|(refine RetThen.mk [] [1152] ?_;cbv)|(refine Nl fun _ _ hq=>?_;(try simp only [lenS] at hq);cbv)|(refine Nm fun _ _=>?_;cbv)|(refine Br.t ?_ ?_;(focus first|assumption|lia);cbv)|(refine Br.f ?_ ?_;(focus first|assumption|lia);cbv)|(refine Br.mk (fun _=>?_) (fun _=>?_)<;>cbv)|(refine Need.mk ?_ ?_;rotate_left;cbv)|(refine R0 ?_;cbv))
   all_goals first
    | (exfalso;clear hhi ihh;lia)
    | (refine⟨.of_eq ?_,trivial⟩;subst_vars;exact hhi (by clear hhi ihh;lia))
    | (simp only [List.length_cons,List.length_nil];clear hhi ihh;lia)
    | (clear hhi ihh;lia)
    | trace_state
def RBytes (O:Opq) (c:Cel):Prop:=Fn prog 329 [.agg (c.en O)] [] [.sl false 0 false 1 (O.o bts (O.o putC c))] []
theorem rbytes_num (O:Opq) (v:Int) (hv:-9007199254740992≤v∧v≤9007199254740992):RBytes O (numC v):=by
 rw[RBytes]
 have hz:zig v<4611686018427387904:=by rw[zig];split<;>omega
 have hz2:((zig v:Nat):Int)=if v<0 then -2 * v-1 else 2 * v:=by rw[zig];split<;>omega
 have h00:O.o Cels.enc []=[]:=by rw[O.h,Cels.enc]
 have hnum:=fun {w:Int} (h:w=if v<0 then -2 * v-1 else 2 * v)=>rnum_fn O (zig v) hz w (h.trans hz2.symm)
 have hst:O.o bts (O.o putC (numC v))=[[.int .u8 1]]++O.o bts (O.o numB (zig v)):=by
  simp only [O.h];rw[numC,putC,if_pos rfl];rfl
 have hl:(O.o bts (O.o numB (zig v))).length≤9:=by
  rw[O.h,O.h,bts_len];exact numB_len (k:=8) (by omega)
 obtain⟨Q,eQ⟩:∃ Q,Q=O.o bts (O.o putC (numC v)):=⟨_,rfl⟩
 obtain⟨M,eM⟩:∃ M,M=O.o bts (O.o numB (zig v)):=⟨_,rfl⟩
 rw[← eQ,← eM] at hst
 rw[← eM] at hl hnum
 rw[← eQ]
 clear eQ eM hz2 hz
 refine go (fn:=Proofs.Tryz.f329) (n:=61) (rv:=[ResultVar.tmp 2]) rfl (by decide) rfl (by decide +kernel) rfl rfl (by simp) fun F L C=>?_
 cbv
 (repeat' first|(refine Na ?_ fun _ _=>?_;(focus lia);cbv)|(refine Named.w8s ?_ fun _ _=>?_;(focus lia);cbv)|(refine CallThen.mk _ _ (C.fn (hnum ?_)) ?_;rotate_left;cbv)|(refine RetThen.mk [] [3264] ?_;cbv)|(refine Nl fun _ _ hq=>?_;(try simp only [lenS] at hq);cbv)|(refine Nm fun _ _=>?_;cbv)|(refine Br.t ?_ ?_;(focus first|assumption|lia);cbv)|(refine Br.f ?_ ?_;(focus first|assumption|lia);cbv)|(refine Br.mk (fun _=>?_) (fun _=>?_)<;>cbv)|(refine Need.mk ?_ ?_;rotate_left;cbv)|(refine R0 ?_;cbv))
 all_goals first
  | (refine⟨.of_eq ?_,trivial⟩;rw[hst];subst_vars;rfl)
  | (rw[if_pos (by assumption)];clear hst hnum;lia)
  | (rw[if_neg (by assumption)];clear hst hnum;lia)
  | (simp only [List.length_cons,List.length_nil];clear hst hnum;lia)
  | (clear hst hnum;lia)
  | trace_state
theorem rbytes_text (O:Opq) (v:ByteArray) (hv:v.size≤65536):RBytes O (textC v):=by
 rw[RBytes]
 have h00:O.o Cels.enc []=[]:=by rw[O.h,Cels.enc]
 have hnum:=fun {w:Int} (h:w=v.size)=>rnum_fn O v.size (by omega) w h
 have hst:O.o bts (O.o putC (textC v))=[[.int .u8 2]]++O.o bts (O.o numB v.size)++byteRows v:=by
  simp only [O.h];rw[textC,putC,if_neg (by decide),if_pos rfl,byteRows_eq,List.append_assoc,← bts_append];rfl
 have hl:(O.o bts (O.o numB v.size)).length≤9:=by
  rw[O.h,O.h,bts_len];exact numB_len (k:=8) (by omega)
 have hbr:(byteRows v).length=v.size:=by rw[byteRows_eq,bts_len,size_list]
 obtain⟨Q,eQ⟩:∃ Q,Q=O.o bts (O.o putC (textC v)):=⟨_,rfl⟩
 obtain⟨M,eM⟩:∃ M,M=O.o bts (O.o numB v.size):=⟨_,rfl⟩
 rw[← eQ,← eM] at hst
 rw[← eM] at hl hnum
 rw[← eQ]
 clear eQ eM
 refine go (fn:=Proofs.Tryz.f329) (n:=61) (rv:=[ResultVar.tmp 2]) rfl (by decide) rfl (by decide +kernel) rfl rfl (by simp) fun F L C=>?_
 cbv
 (repeat' first|(refine Na ?_ fun _ _=>?_;(focus lia);cbv)|(refine Named.w8s ?_ fun _ _=>?_;(focus lia);cbv)|(refine CallThen.mk _ _ (C.fn (hnum ?_)) ?_;rotate_left;cbv)|(refine RetThen.mk [] [3968] ?_;cbv)|(refine Nl fun _ _ hq=>?_;(try simp only [lenS] at hq);cbv)|(refine Nm fun _ _=>?_;cbv)|(refine Br.t ?_ ?_;(focus first|assumption|lia);cbv)|(refine Br.f ?_ ?_;(focus first|assumption|lia);cbv)|(refine Br.mk (fun _=>?_) (fun _=>?_)<;>cbv)|(refine Need.mk ?_ ?_;rotate_left;cbv)|(refine R0 ?_;cbv))
 all_goals first
  | (refine⟨.of_eq ?_,trivial⟩;rw[hst];subst_vars;rfl)
  | (simp only [List.length_cons,List.length_nil];clear hst hnum;lia)
  | (clear hst hnum;lia)
  | (clear hst hnum;subst_vars;simp only [List.length_append,List.length_cons,List.length_nil];lia)
  | trace_state
set_option maxHeartbeats 1000000 in
theorem rbytes_list (O:Opq) (l:List Cel) (hs:Cels.size l≤4096) (hlb:(putC (listC l)).length≤300000000) (ih:∀ x∈l,RBytes O x):RBytes O (listC l):=by
 rw[RBytes]
 have hvl:=Cels.len_size l
 have hen:=Cels.en_len O l
 have hnum:=fun {w:Int} (h:w=l.length)=>rnum_fn O l.length (by omega) w h
 obtain⟨b1,hb1⟩:∃ b1,b1=[3]++numB l.length:=⟨_,rfl⟩
 have e:putC (listC l)=b1++putCs l:=by rw[listC,putC,if_neg (by decide),if_neg (by decide),hb1];rfl
 have hb1r:O.o bts b1=[[.int .u8 3]]++O.o bts (O.o numB l.length):=by simp only [O.h];rw[hb1,bts_append];rfl
 have hl9:(O.o bts (O.o numB l.length)).length≤9:=by
  rw[O.h,O.h,bts_len];exact numB_len (k:=8) (by omega)
 have hlen:∀ i,(O.o (btsI b1 l) i).length=(listB b1 l i).length:=fun i=>by rw[O.h,btsI,bts_len]
 have hall:∀ i,l.length≤i→O.o (btsI b1 l) i=O.o bts (O.o putC (listC l)):=fun i h=>by simp only [O.h];rw[btsI,listB_all h,e]
 have hle:∀ i,(listB b1 l i).length≤300000000:=fun i=>by
  have:=listB_le (b1:=b1) (v:=l) (i:=i)
  rw[← e] at this;omega
 obtain⟨z,hz⟩:∃ z:Nat,z=0:=⟨_,rfl⟩
 have hz1:O.o (btsI b1 l) z=[[.int .u8 3]]++O.o bts (O.o numB l.length):=by rw[← hb1r,hz];simp only [O.h];rw[btsI,listB_zero]
 obtain⟨N,hN⟩:∃ N:Nat,N=l.length:=⟨_,rfl⟩
 obtain⟨Q,eQ⟩:∃ Q,Q=O.o bts (O.o putC (listC l)):=⟨_,rfl⟩
 obtain⟨M,eM⟩:∃ M,M=O.o bts (O.o numB l.length):=⟨_,rfl⟩
 rw[← eQ] at hall ⊢
 rw[← eM] at hnum hl9 hz1
 clear eQ eM hb1 hb1r e hlb
 refine go (fn:=Proofs.Tryz.f329) (n:=61) (rv:=[ResultVar.tmp 2]) rfl (by decide) rfl (by decide +kernel) rfl rfl (by simp) fun F L C=>?_
 cbv
 (repeat' first|(refine Na ?_ fun _ _=>?_;(focus lia);cbv)|(refine Named.w8s ?_ fun _ _=>?_;(focus lia);cbv)|(refine CallThen.mk _ _ (C.fn (hnum ?_)) ?_;rotate_left;cbv)|(refine Nl fun _ _ hq=>?_;(try simp only [lenS] at hq);cbv)|(refine Nm fun _ _=>?_;cbv)|(refine Br.t ?_ ?_;(focus first|assumption|lia);cbv)|(refine Br.f ?_ ?_;(focus first|assumption|lia);cbv)|(refine Br.mk (fun _=>?_) (fun _=>?_)<;>cbv)|(refine Need.mk ?_ ?_;rotate_left;cbv)|(refine R0 ?_;cbv))
 all_goals try first
  | (clear ih hall hz1 hnum hlen hle;lia)
  | (simp only [List.length_cons,List.length_nil];clear ih hall hz1 hnum hlen hle;lia)
 refine LoopThen.mk (C.loopAt (ι:=Nat) [(3,3),(5,5),(18,32)] (fun i=>[(3,.ref 50),(5,.int .i64 i),(9,.top),(12,.top),(17,.top)]) (fun i=>[(50,.arr 0 none 1 (O.o (btsI b1 l) i)),(192,.box [.int .i64 3,.int .i64 0,.str ByteArray.empty,.sl false 0 false 4 (O.o Cels.enc l)])])
  (fun i=>i≤N) (fun i=>N-i) (by decide +kernel) (Start.mk z [(50,.loc 1216)] [] (by lia) ?_) ?_)
 ·cbv
  (repeat' apply And.intro)<;>first|exact True.intro|exact WkR.refl _|rfl|(refine WkR.of_eq (hz1.trans ?_);clear hz1 hz hN;subst_vars;rfl)|lia
 intro i g1
 cbv
 have hli:=hlen i
 have hle1:=hle i
 by_cases hi:i<l.length
 ·obtain⟨x,hx⟩:∃ x,l[i]?=some x:=⟨l[i],by simp [hi]⟩
  have hc:=ih x (List.mem_of_getElem? hx)
  rw[RBytes] at hc
  have hmo:O.o (btsI b1 l) (i+1)=O.o (btsI b1 l) i++O.o bts (O.o putC x):=by
   simp only [O.h];rw[btsI,listB_more hx,bts_append];rfl
  have hle2:=hle (i+1)
  have hlx:(O.o bts (O.o putC x)).length≤300000000:=by
   rw[listB_more hx,List.length_append] at hle2
   rw[O.h,O.h,bts_len];omega
  obtain⟨Y,eY⟩:∃ Y,Y=O.o bts (O.o putC x):=⟨_,rfl⟩
  rw[← eY] at hc hmo hlx
  clear ih hall hz1 hnum hlen hle eY hle2
  (repeat' first|(refine Na ?_ fun _ _=>?_;(focus lia);cbv)|(refine Ex.cel O hx ?_ ?_;(focus lia);cbv)|(refine CallThen.mk _ _ (C.fn (hc)) ?_;cbv)|(refine Back.up [(50,.loc 2176)] [] ?_ ?_ fun _ _=>?_;rotate_left 2;cbv;refine And.intro ?_ ?_)|(refine Nl fun _ _ hq=>?_;(try simp only [lenS] at hq);cbv)|(refine Nm fun _ _=>?_;cbv)|(refine Br.t ?_ ?_;(focus first|assumption|lia);cbv)|(refine Br.f ?_ ?_;(focus first|assumption|lia);cbv)|(refine Br.mk (fun _=>?_) (fun _=>?_)<;>cbv)|(refine Need.mk ?_ ?_;rotate_left;cbv)|(refine R0 ?_;cbv))
  all_goals(repeat' apply And.intro)
  all_goals first
   | exact True.intro
   | exact WkR.refl _
   | (clear hx hc hmo;lia)
   | (refine WkR.of_eq ?_;subst_vars;exact hmo)
   | trace_state
 ·have hall:=hall i (by omega)
  clear ih hz1 hnum hlen hle
  (repeat' first|(refine Na ?_ fun _ _=>?_;(focus lia);cbv)|(refine RetThen.mk [] [50] ?_;cbv)|(refine Nl fun _ _ hq=>?_;(try simp only [lenS] at hq);cbv)|(refine Nm fun _ _=>?_;cbv)|(refine Br.t ?_ ?_;(focus first|assumption|lia);cbv)|(refine Br.f ?_ ?_;(focus first|assumption|lia);cbv)|(refine Br.mk (fun _=>?_) (fun _=>?_)<;>cbv)|(refine Need.mk ?_ ?_;rotate_left;cbv)|(refine R0 ?_;cbv))
  all_goals first
   | (exfalso;clear hall;lia)
   | (refine⟨.of_eq ?_,trivial⟩;rw[← hall];symm;assumption)
   | (refine Nm fun rs e=>⟨.of_eq ?_,by cbv⟩;rw[e,← hall];done)
   | trace_state
theorem rbytes_fn (O:Opq):∀ (n:Nat) (c:Cel),c.size≤n→n≤4096→pureC c=true→shortC c=true→RBytes O c
 | 0,c,h,_,_,_=>by rw[Cel.size_list] at h;omega
 | n+1,.mk k m t l,h,hn,hp,ht=>by
  have hs:(Cel.mk k m t l).size=1+Cels.size l:=rfl
  have hle:=putC_le _ hp ht (by omega)
  rcases pureC_kind hp with rfl|rfl|rfl
  ·have e:=pure_num hp rfl
   rw[e] at hp ⊢
   simp only [pureC,numC,if_true,decide_eq_true_eq] at hp
   exact rbytes_num O m ⟨hp.1,hp.2.1⟩
  ·have e:=pure_text hp rfl
   rw[e]
   simp only [shortC,Bool.and_eq_true,decide_eq_true_eq] at ht
   exact rbytes_text O t ht.1
  ·obtain⟨e,hpl⟩:=pure_list hp rfl
   rw[e] at hle ⊢
   simp only [shortC,Bool.and_eq_true,decide_eq_true_eq] at ht
   refine rbytes_list O l (by omega) (by have hle2:(putC (listC l)).length≤65547 * (Cel.mk 3 m t l).size:=hle;omega) fun x hx=>?_
   have:=Cels.size_mem hx
   exact rbytes_fn O n x (by omega) (by omega) (hpl x hx) (shortCs_all ht.2 x hx)
theorem wk_nilC (O:Opq) (k n:Int) (s:ByteArray):WkL ((Cel.mk k n s []).en O) [.int .i64 k,.int .i64 n,.str s,.nils]:=by
 refine .cons (.refl _) (.cons (.refl _) (.cons (.refl _) (.cons ?_ (.refl _))))
 show Wk (.sl false 0 false 4 (O.o Cels.enc [])) .nils
 rw[O.h,Cels.enc];exact .nil _ _
theorem wk_listC (O:Opq) (nn:Nat) {l:List Cel} {r:List (List PV)} (h:WkR (O.o Cels.enc l) r):WkL ((listC l).en O) [.int .i64 3,.int .i64 0,.str ByteArray.empty,.sl false nn false 4 r] :=
 .cons (.refl _) (.cons (.refl _) (.cons (.refl _) (.cons (.sl' rfl rfl h) (.refl _))))
theorem wk_cons (O:Opq) {c:Cel} {l:List Cel} {x:List PV} {r:List (List PV)} (h:WkL (c.en O) x) (t:WkR (O.o Cels.enc l) r):WkR (O.o Cels.enc (c::l)) (x::r):=by
 rw[O.h] at t ⊢
 rw[Cels.enc,Cel.en_eq O];exact .cons h t
theorem wk_nil (O:Opq):WkR (O.o Cels.enc []) []:=by rw[O.h,Cels.enc];exact .refl _
theorem wk_field (O:Opq) {d:Doc} {k:Nat} {f:Field} (hx:d[k]?=some f) {x:List PV} {nn:Nat} (h:WkL ((O.o valC f.val).en O) x) :
  WkR (O.o (fieldsC d) (k+1)) (O.o (fieldsC d) k++[[.int .i64 3,.int .i64 0,.str ByteArray.empty,.sl false nn false 4 [[.int .i64 2,.int .i64 0,.str f.path,.nils],x]]]):=by
 rw[fieldsC_more O hx]
 refine .append (.refl _) (.cons (.cons (.refl _) (.cons (.refl _) (.cons (.refl _) (.cons (.sl' rfl rfl ?_) (.refl _))))) (.refl _))
 exact .cons (wk_nilC O _ _ _) (.cons h (.refl _))
set_option maxHeartbeats 1000000 in
theorem rpcellL_fn (O:Opq) (d:Doc) (hm:may d=true):Fn prog 330 [.sl true 0 false 6 (O.o Doc.enc d)] [] [.agg ((O.o docC d).en O)] []:=by
 have hlen:(O.o Doc.enc d).length=d.length:=by rw[O.h,Doc.enc_len]
 have hdl:=may_len hm
 have hp:(O.o docC d).kind=3∧(O.o docC d).num=0∧(O.o docC d).text=ByteArray.empty:=by rw[O.h];exact⟨rfl,rfl,rfl⟩
 obtain⟨N,hN⟩:∃ N:Nat,N=d.length:=⟨_,rfl⟩
 obtain⟨z,hz⟩:∃ z:Nat,z=0:=⟨_,rfl⟩
 have hz0:O.o (fieldsC d) z=[]:=by rw[O.h,hz];rfl
 have hen:∀ k:Nat,N≤k→O.o (fieldsC d) k=O.o Cels.enc (O.o docC d).list:=fun k h=>by simp only [O.h];exact fieldsC_all (by omega)
 have hfl:∀ k:Nat,k≤N→(O.o (fieldsC d) k).length≤16:=fun k h=>by rw[O.h,fieldsC_len (by omega)];omega
 have hva:=fun f hf=>(may_all hm f hf).2
 refine go (fn:=Proofs.Tryz.f330) (n:=55) (rv:=[ResultVar.cell 2 259]) rfl (by decide) rfl (by decide +kernel) rfl rfl (by simp) fun F L C=>?_
 cbv
 (repeat' first|(refine Na ?_ fun _ _=>?_;(focus lia);cbv)|(refine Nl fun _ _ hq=>?_;(try simp only [lenS] at hq);cbv)|(refine Nm fun _ _=>?_;cbv)|(refine Br.t ?_ ?_;(focus first|assumption|lia);cbv)|(refine Br.f ?_ ?_;(focus first|assumption|lia);cbv)|(refine Br.mk (fun _=>?_) (fun _=>?_)<;>cbv)|(refine Need.mk ?_ ?_;rotate_left;cbv)|(refine R0 ?_;cbv))
 refine LoopThen.mk (C.loopAt (ι:=Nat) [(4,6),(8,54)] (fun k=>[(4,.int .i64 k)]) (fun k=>[(50,.arr 0 none 4 (O.o (fieldsC d) k)),(256,.box [.int .i64 0,.int .i64 0,.str ByteArray.empty,.nils]),(320,.box [.int .i64 3,.int .i64 0,.str ByteArray.empty,.ref 50])])
  (fun k=>k≤N) (fun k=>N-k) (by decide +kernel) (Start.mk z [(50,.nil 4)] [] (by lia) ?_) ?_)
 ·cbv
  (repeat' apply And.intro)<;>first|exact True.intro|exact WkR.refl _|rfl|exact hz0|lia
 intro k g
 cbv
 by_cases hk:k<d.length
 ·obtain⟨x,hx⟩:∃ x,d[k]?=some x:=⟨d[k],by simp [hk]⟩
  have hwk:=fun(nn:Nat) (y:List PV) (h:WkL ((O.o valC x.val).en O) y)=>wk_field O hx (nn:=nn) h
  have hok:=hva x (List.mem_of_getElem? hx)
  have hw2:x.val.kind=2→WkL ((O.o valC x.val).en O) [.int .i64 2,.int .i64 0,.str x.val.text,.nils]:=fun h=>by
   rw[O.h valC,valC,if_neg (by omega),if_pos h];exact wk_nilC O _ _ _
  have hw1:x.val.kind=1→WkL ((O.o valC x.val).en O) [.int .i64 1,.int .i64 x.val.num,.str ByteArray.empty,.nils]:=fun h=>by
   rw[O.h valC,valC,if_pos h];exact wk_nilC O _ _ _
  have hw3:x.val.kind=3→∀ nn,WkL ((O.o valC x.val).en O) [.int .i64 3,.int .i64 0,.str ByteArray.empty,.sl false nn false 4 [[.int .i64 1,.int .i64 x.val.re,.str ByteArray.empty,.nils],[.int .i64 1,.int .i64 x.val.im,.str ByteArray.empty,.nils]]]:=fun h nn=>by
   rw[O.h valC,valC,if_neg (by omega),if_neg (by omega)]
   exact wk_listC O nn (wk_cons O (wk_nilC O _ _ _) (wk_cons O (wk_nilC O _ _ _) (wk_nil O)))
  have hll:=hfl k g
  have hkk:x.val.kind=1∨x.val.kind=2∨x.val.kind=3:=by rcases hok with h|h|h<;>simp [h.1]
  clear hen hz0 hfl hva hok
  (repeat' first|(refine Na ?_ fun _ _=>?_;(focus lia);cbv)|(refine Ex.known O Field.enc rfl hx ?_ ?_;(focus lia);cbv)|(refine Back.up [(50,.loc 3520)] [] ?_ ?_ fun _ _=>?_;rotate_left 2;cbv;refine And.intro ?_ ?_)|(refine Nl fun _ _ hq=>?_;(try simp only [lenS] at hq);cbv)|(refine Nm fun _ _=>?_;cbv)|(refine Br.t ?_ ?_;(focus first|assumption|lia);cbv)|(refine Br.f ?_ ?_;(focus first|assumption|lia);cbv)|(refine Br.mk (fun _=>?_) (fun _=>?_)<;>cbv)|(refine Need.mk ?_ ?_;rotate_left;cbv)|(refine R0 ?_;cbv))
  all_goals(repeat' apply And.intro)
  all_goals try first
   | exact True.intro
   | exact WkR.refl _
   | (clear hwk hw1 hw2 hw3 hx;lia)
   | (simp only [List.length_cons,List.length_nil];clear hwk hw1 hw2 hw3 hx;lia)
  all_goals(try subst_vars)
  all_goals first
   | exact hwk _ _ (hw2 (by assumption))
   | exact hwk _ _ (hw3 (by assumption) _)
   | exact hwk _ _ (hw1 (by rcases hkk with h|h|h;exact h;exact absurd h (by assumption);exact absurd h (by assumption)))
   | trace_state
 ·have hll:=hfl k g
  have hke:=hen k (by omega)
  clear hen hz0 hfl hva
  (repeat' first|(refine Na ?_ fun _ _=>?_;(focus lia);cbv)|(refine RetThen.mk [] [50] ?_;cbv)|(refine Nl fun _ _ hq=>?_;(try simp only [lenS] at hq);cbv)|(refine Nm fun _ _=>?_;cbv)|(refine Br.t ?_ ?_;(focus first|assumption|lia);cbv)|(refine Br.f ?_ ?_;(focus first|assumption|lia);cbv)|(refine Br.mk (fun _=>?_) (fun _=>?_)<;>cbv)|(refine Need.mk ?_ ?_;rotate_left;cbv)|(refine R0 ?_;cbv))
  all_goals first
   | lia
   | exact⟨hp.1,hp.2.1,hp.2.2,Named.mk fun rs e=>⟨.of_eq (by rw[e];exact hke.symm),by cbv⟩⟩
   | trace_state
theorem rpcell_fn (O:Opq) (d:Doc) (hm:may d=true):Fn prog 330 [.sl false 0 false 6 (O.o Doc.enc d)] [] [.agg ((O.o docC d).en O)] [] :=
 (rpcellL_fn O d hm).wkA (.cons (.lend rfl) .nil)
end Go.Sym
