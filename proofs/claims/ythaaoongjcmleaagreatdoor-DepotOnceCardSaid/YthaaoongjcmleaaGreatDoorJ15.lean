/- Cells are written. -/
import Derived.Test.YthaaoongjcmleaaGreatDoorJ14
import Derived.Test.YthaaoongjcmleaaGreatDoorJ10
import Derived.Test.YthaaoongjcmleaaGreatDoorJ13
set_option linter.all false
set_option linter.unusedVariables false
set_option linter.unusedSimpArgs false
namespace Go.Sym
open Go Go.Proofs.Tryz
set_option maxRecDepth 100000
theorem bts_text (O:Opq) (l:List UInt8) (s:ByteArray):O.o bts (l++s.data.toList)=O.o bts l++byteRows s:=by
 simp only [O.h,bts_append,byteRows_eq]
theorem cnumberR_fn (O:Opq) (nn:Nat) (b:List UInt8) (n:Nat) (v:Int) (hn:n<4611686018427387904) (hb:b.length≤1099511627) {R:List (List PV)} (hR:R=O.o bts b) (hv:v=n):Fn prog 292 [.ref 0,.int .i64 v] [.arr nn none 1 R] [.ref 1] [.dead,.arr 2 none 1 (O.o bts (b++O.o numB n))]:=by
 rw[hR,hv];exact cnumber_fn O nn b n hn hb
def PutOk (O:Opq) (b:List UInt8) (c:Cel):Prop :=
 ((b++putC c).length≤65536→∀ {nn:Nat} {R:List (List PV)},R=O.o bts b→Fn prog 262 [.ref 0,.agg (c.en O)] [.arr nn none 1 R] [.ref 1] [.dead,.arr 2 none 1 (O.o bts (b++O.o putC c))]) ∧
 (65536<(b++putC c).length→∀ {nn:Nat} {R:List (List PV)},R=O.o bts b→Fn prog 262 [.ref 0,.agg (c.en O)] [.arr nn none 1 R] [.nils] [.dead])
def PutOk0 (O:Opq) (c:Cel):Prop :=
 ((([]:List UInt8)++putC c).length≤65536→Fn prog 262 [.nils,.agg (c.en O)] [] [.ref 0] [.arr 2 none 1 (O.o bts (([]:List UInt8)++O.o putC c))]) ∧
 (65536<(([]:List UInt8)++putC c).length→Fn prog 262 [.nils,.agg (c.en O)] [] [.nils] [])
theorem put_num (O:Opq) (v:Int) (hv:-9007199254740992≤v∧v≤9007199254740992) (b:List UInt8) (hb:b.length≤1000000):PutOk O b (numC v):=by
 have hz:zig v<4611686018427387904:=by rw[zig];split<;>omega
 have hz2:((zig v:Nat):Int)=if v<0 then -2 * v-1 else 2 * v:=by rw[zig];split<;>omega
 have h0:O.o Cels.enc []=[]:=by rw[O.h,Cels.enc]
 have h00:O.o bts []=[]:=by rw[O.h];rfl
 have e:b++putC (numC v)=(b++[1])++numB (zig v):=by rw[numC,putC,if_pos rfl];simp
 have hst:=fun {w:Int} (hw:w=1)=>bts_snoc O (b) (n:=1) (by omega) hw
 try simp only [h00] at hst
 have hnum:=fun {R:List (List PV)} (w:Int) (h:w=if v<0 then -2 * v-1 else 2 * v) (hR:R=O.o bts (b++[1]))=>cnumberR_fn O 2 (b++[1]) (zig v) w hz (by rw[List.length_append];simp;omega) hR (h.trans hz2.symm)
 have e2:(b++[1])++O.o numB (zig v)=b++O.o putC (numC v):=by simp only [O.h];exact e.symm
 rw[e2] at hnum
 have hL:(b++O.o putC (numC v)).length=(b++putC (numC v)).length:=by rw[O.h]
 have hlb:(O.o bts (b++O.o putC (numC v))).length=(b++O.o putC (numC v)).length:=by rw[O.h,bts_len]
 rw[hL] at hlb
 clear hL e2 e hz2 hz
 constructor
 all_goals
  intro hfit
  obtain⟨M,hM⟩:∃ M,M=O.o bts (b++O.o putC (numC v)):=⟨_,rfl⟩
  intro nn R hR;have hl0:R.length=b.length:=by rw[hR,O.h,bts_len]
  rw[← hM] at hlb hnum
  try rw[← hM]
  obtain⟨T,hT⟩:∃ T,T=(b++putC (numC v)).length:=⟨_,rfl⟩
  rw[← hT] at hfit
  try rw[← hT] at hlb
  clear hM hT
  refine go (fn:=Proofs.Tryz.f262) (n:=60) (rv:=[ResultVar.tmp 4]) rfl (by decide) rfl (by decide +kernel) rfl rfl (by simp) fun F L C=>?_
  cbv
  (repeat' first|(refine Na ?_ fun _ _=>?_;(focus lia);cbv)|(refine Named.w8s ?_ fun _ _=>?_;(focus lia);cbv)|(refine CallThen.mk _ _ (C.fn (hnum _ ?_ ?_)) ?_;rotate_left 2;cbv)|(refine RetThen.mk [(1,.loc 3136)] [] ?_;cbv)|(refine R0 ?_;cbv)|(refine Nl fun _ _ hq=>?_;(try simp only [lenS] at hq);cbv)|(refine Nm fun _ _=>?_;cbv)|(refine Br.t ?_ ?_;(focus first|assumption|lia);cbv)|(refine Br.f ?_ ?_;(focus first|assumption|lia);cbv)|(refine Br.mk (fun _=>?_) (fun _=>?_)<;>cbv)|(refine Need.mk ?_ ?_;rotate_left;cbv)|(refine R0 ?_;cbv))
  all_goals try first
   | (exfalso;clear hst hnum;lia)
   | (clear hst hnum;lia)
   | (simp only [List.length_cons,List.length_nil];clear hst hnum;lia)
   | exact⟨.refl _,trivial⟩
   | (rw[if_pos (by assumption)];clear hst hnum;lia)
   | (rw[if_neg (by assumption)];clear hst hnum;lia)
  all_goals first
   | (subst_vars;exact(hst rfl).symm)
   | trace_state
theorem put0_num (O:Opq) (v:Int) (hv:-9007199254740992≤v∧v≤9007199254740992) :PutOk0 O (numC v):=by
 have hz:zig v<4611686018427387904:=by rw[zig];split<;>omega
 have hz2:((zig v:Nat):Int)=if v<0 then -2 * v-1 else 2 * v:=by rw[zig];split<;>omega
 have h0:O.o Cels.enc []=[]:=by rw[O.h,Cels.enc]
 have h00:O.o bts []=[]:=by rw[O.h];rfl
 have e:([]:List UInt8)++putC (numC v)=(([]:List UInt8)++[1])++numB (zig v):=by rw[numC,putC,if_pos rfl];simp
 have hst:=fun {w:Int} (hw:w=1)=>bts_snoc O (([]:List UInt8)) (n:=1) (by omega) hw
 try simp only [h00] at hst
 have hnum:=fun {R:List (List PV)} (w:Int) (h:w=if v<0 then -2 * v-1 else 2 * v) (hR:R=O.o bts (([]:List UInt8)++[1]))=>cnumberR_fn O 2 (([]:List UInt8)++[1]) (zig v) w hz (by rw[List.length_append];simp) hR (h.trans hz2.symm)
 have e2:(([]:List UInt8)++[1])++O.o numB (zig v)=([]:List UInt8)++O.o putC (numC v):=by simp only [O.h];exact e.symm
 rw[e2] at hnum
 have hL:(([]:List UInt8)++O.o putC (numC v)).length=(([]:List UInt8)++putC (numC v)).length:=by rw[O.h]
 have hlb:(O.o bts (([]:List UInt8)++O.o putC (numC v))).length=(([]:List UInt8)++O.o putC (numC v)).length:=by rw[O.h,bts_len]
 rw[hL] at hlb
 clear hL e2 e hz2 hz
 constructor
 all_goals
  intro hfit
  obtain⟨M,hM⟩:∃ M,M=O.o bts (([]:List UInt8)++O.o putC (numC v)):=⟨_,rfl⟩
  skip
  rw[← hM] at hlb hnum
  try rw[← hM]
  obtain⟨T,hT⟩:∃ T,T=(([]:List UInt8)++putC (numC v)).length:=⟨_,rfl⟩
  rw[← hT] at hfit
  try rw[← hT] at hlb
  clear hM hT
  refine go (fn:=Proofs.Tryz.f262) (n:=60) (rv:=[ResultVar.tmp 4]) rfl (by decide) rfl (by decide +kernel) rfl rfl (by simp) fun F L C=>?_
  cbv
  (repeat' first|(refine Na ?_ fun _ _=>?_;(focus lia);cbv)|(refine Named.w8s ?_ fun _ _=>?_;(focus lia);cbv)|(refine CallThen.mk _ _ (C.fn (hnum _ ?_ ?_)) ?_;rotate_left 2;cbv)|(refine RetThen.mk [(0,.loc 3136)] [] ?_;cbv)|(refine R0 ?_;cbv)|(refine Nl fun _ _ hq=>?_;(try simp only [lenS] at hq);cbv)|(refine Nm fun _ _=>?_;cbv)|(refine Br.t ?_ ?_;(focus first|assumption|lia);cbv)|(refine Br.f ?_ ?_;(focus first|assumption|lia);cbv)|(refine Br.mk (fun _=>?_) (fun _=>?_)<;>cbv)|(refine Need.mk ?_ ?_;rotate_left;cbv)|(refine R0 ?_;cbv))
  all_goals try first
   | (exfalso;clear hst hnum;lia)
   | (clear hst hnum;lia)
   | (simp only [List.length_cons,List.length_nil];clear hst hnum;lia)
   | exact⟨.refl _,trivial⟩
   | (rw[if_pos (by assumption)];clear hst hnum;lia)
   | (rw[if_neg (by assumption)];clear hst hnum;lia)
  all_goals first
   | (subst_vars;exact(hst rfl).symm)
   | trace_state
theorem put_text (O:Opq) (v:ByteArray) (hv:v.size≤65536) (b:List UInt8) (hb:b.length≤1000000):PutOk O b (textC v):=by
 have h0:O.o Cels.enc []=[]:=by rw[O.h,Cels.enc]
 have h00:O.o bts []=[]:=by rw[O.h];rfl
 have e:b++putC (textC v)=(b++[2])++numB v.size++v.data.toList:=by rw[textC,putC,if_neg (by decide),if_pos rfl];simp
 have hst:=fun {w:Int} (hw:w=2)=>bts_snoc O (b) (n:=2) (by omega) hw
 try simp only [h00] at hst
 have hnum:=fun {R:List (List PV)} (w:Int) (h:w=v.size) (hR:R=O.o bts (b++[2]))=>cnumberR_fn O 2 (b++[2]) v.size w (by omega) (by rw[List.length_append];simp;omega) hR h
 have htx:O.o bts (b++O.o putC (textC v))=O.o bts ((b++[2])++O.o numB v.size)++byteRows v:=by
  rw[← bts_text];simp only [O.h];rw[e]
 have hbr:(byteRows v).length=v.size:=by rw[byteRows_eq,bts_len,size_list]
 have hn9:(O.o bts ((b++[2])++O.o numB v.size)).length≤b.length+10:=by
  have:=numB_len (n:=v.size) (k:=8) (by omega)
  simp only [O.h,bts_len,List.length_append,List.length_cons,List.length_nil];omega
 have hlb:(O.o bts (b++O.o putC (textC v))).length=(b++putC (textC v)).length:=by simp only [O.h,bts_len]
 rw[htx,List.length_append] at hlb
 clear e
 constructor
 all_goals
  intro hfit
  obtain⟨D,hD⟩:∃ D,D=O.o bts ((b++[2])++O.o numB v.size):=⟨_,rfl⟩
  rw[← hD] at htx hlb hnum hn9
  intro nn R hR;have hl0:R.length=b.length:=by rw[hR,O.h,bts_len]
  obtain⟨M,hM⟩:∃ M,M=O.o bts (b++O.o putC (textC v)):=⟨_,rfl⟩
  try rw[← hM]
  rw[← hM] at htx
  obtain⟨T,hT⟩:∃ T,T=(b++putC (textC v)).length:=⟨_,rfl⟩
  rw[← hT] at hfit
  try rw[← hT] at hlb
  clear hD hT hM
  have hnil:([]:List UInt8).length=0:=rfl
  refine go (fn:=Proofs.Tryz.f262) (n:=60) (rv:=[ResultVar.tmp 4]) rfl (by decide) rfl (by decide +kernel) rfl rfl (by simp) fun F L C=>?_
  cbv
  (repeat' first|(refine Na ?_ fun _ _=>?_;(focus lia);cbv)|(refine Named.w8s ?_ fun _ _=>?_;(focus lia);cbv)|(refine CallThen.mk _ _ (C.fn (hnum _ ?_ ?_)) ?_;rotate_left 2;cbv)|(refine RetThen.mk [(1,.loc 3776)] [] ?_;cbv)|(refine R0 ?_;cbv)|(refine Nl fun _ _ hq=>?_;(try simp only [lenS] at hq);cbv)|(refine Nm fun _ _=>?_;cbv)|(refine Br.t ?_ ?_;(focus first|assumption|lia);cbv)|(refine Br.f ?_ ?_;(focus first|assumption|lia);cbv)|(refine Br.mk (fun _=>?_) (fun _=>?_)<;>cbv)|(refine Need.mk ?_ ?_;rotate_left;cbv)|(refine R0 ?_;cbv))
  all_goals try first
   | (exfalso;clear hst hnum;subst_vars;simp only [List.length_append] at *;lia)
   | (clear hst hnum;lia)
   | (simp only [List.length_cons,List.length_nil];clear hst hnum;lia)
   | (subst_vars;exact(hst rfl).symm)
   | (rename_i h1 R hR;refine⟨.of_eq ?_,trivial⟩;subst_vars;rfl)
   | (rename_i R hR;refine⟨.of_eq ?_,trivial⟩;subst_vars;rfl)
   | (clear hst hnum;subst_vars;simp only [List.length_append,List.length_cons,List.length_nil];lia)
  all_goals trace_state
theorem put0_text (O:Opq) (v:ByteArray) (hv:v.size≤65536) :PutOk0 O (textC v):=by
 have h0:O.o Cels.enc []=[]:=by rw[O.h,Cels.enc]
 have h00:O.o bts []=[]:=by rw[O.h];rfl
 have e:([]:List UInt8)++putC (textC v)=(([]:List UInt8)++[2])++numB v.size++v.data.toList:=by rw[textC,putC,if_neg (by decide),if_pos rfl];simp
 have hst:=fun {w:Int} (hw:w=2)=>bts_snoc O (([]:List UInt8)) (n:=2) (by omega) hw
 try simp only [h00] at hst
 have hnum:=fun {R:List (List PV)} (w:Int) (h:w=v.size) (hR:R=O.o bts (([]:List UInt8)++[2]))=>cnumberR_fn O 2 (([]:List UInt8)++[2]) v.size w (by omega) (by rw[List.length_append];simp) hR h
 have htx:O.o bts (([]:List UInt8)++O.o putC (textC v))=O.o bts ((([]:List UInt8)++[2])++O.o numB v.size)++byteRows v:=by
  rw[← bts_text];simp only [O.h];rw[e]
 have hbr:(byteRows v).length=v.size:=by rw[byteRows_eq,bts_len,size_list]
 have hn9:(O.o bts ((([]:List UInt8)++[2])++O.o numB v.size)).length≤([]:List UInt8).length+10:=by
  have:=numB_len (n:=v.size) (k:=8) (by omega)
  simp only [O.h,bts_len,List.length_append,List.length_cons,List.length_nil];omega
 have hlb:(O.o bts (([]:List UInt8)++O.o putC (textC v))).length=(([]:List UInt8)++putC (textC v)).length:=by simp only [O.h,bts_len]
 rw[htx,List.length_append] at hlb
 clear e
 constructor
 all_goals
  intro hfit
  obtain⟨D,hD⟩:∃ D,D=O.o bts ((([]:List UInt8)++[2])++O.o numB v.size):=⟨_,rfl⟩
  rw[← hD] at htx hlb hnum hn9
  skip
  obtain⟨M,hM⟩:∃ M,M=O.o bts (([]:List UInt8)++O.o putC (textC v)):=⟨_,rfl⟩
  try rw[← hM]
  rw[← hM] at htx
  obtain⟨T,hT⟩:∃ T,T=(([]:List UInt8)++putC (textC v)).length:=⟨_,rfl⟩
  rw[← hT] at hfit
  try rw[← hT] at hlb
  clear hD hT hM
  have hnil:([]:List UInt8).length=0:=rfl
  refine go (fn:=Proofs.Tryz.f262) (n:=60) (rv:=[ResultVar.tmp 4]) rfl (by decide) rfl (by decide +kernel) rfl rfl (by simp) fun F L C=>?_
  cbv
  (repeat' first|(refine Na ?_ fun _ _=>?_;(focus lia);cbv)|(refine Named.w8s ?_ fun _ _=>?_;(focus lia);cbv)|(refine CallThen.mk _ _ (C.fn (hnum _ ?_ ?_)) ?_;rotate_left 2;cbv)|(refine RetThen.mk [(0,.loc 3776)] [] ?_;cbv)|(refine R0 ?_;cbv)|(refine Nl fun _ _ hq=>?_;(try simp only [lenS] at hq);cbv)|(refine Nm fun _ _=>?_;cbv)|(refine Br.t ?_ ?_;(focus first|assumption|lia);cbv)|(refine Br.f ?_ ?_;(focus first|assumption|lia);cbv)|(refine Br.mk (fun _=>?_) (fun _=>?_)<;>cbv)|(refine Need.mk ?_ ?_;rotate_left;cbv)|(refine R0 ?_;cbv))
  all_goals try first
   | (exfalso;clear hst hnum;subst_vars;simp only [List.length_append] at *;lia)
   | (clear hst hnum;lia)
   | (simp only [List.length_cons,List.length_nil];clear hst hnum;lia)
   | (subst_vars;exact(hst rfl).symm)
   | (rename_i h1 R hR;refine⟨.of_eq ?_,trivial⟩;subst_vars;rfl)
   | (rename_i R hR;refine⟨.of_eq ?_,trivial⟩;subst_vars;rfl)
   | (clear hst hnum;subst_vars;simp only [List.length_append,List.length_cons,List.length_nil];lia)
  all_goals trace_state
set_option maxHeartbeats 1000000 in
theorem put_list (O:Opq) (v:List Cel) (hv:Cels.size v≤4096) (b:List UInt8) (hb:b.length+10 * (1+Cels.size v)≤1000000) (ih:∀ x∈v,∀ b:List UInt8,b.length+10 * x.size≤1000000→PutOk O b x):PutOk O b (listC v):=by
 have h00:O.o bts []=[]:=by rw[O.h];rfl
 have hvl:=Cels.len_size v
 have hen:=Cels.en_len O v
 have e:b++putC (listC v)=((b++[3])++numB v.length)++putCs v:=by rw[listC,putC,if_neg (by decide),if_neg (by decide)];simp
 have hst:=fun {w:Int} (hw:w=3)=>bts_snoc O (b) (n:=3) (by omega) hw
 try simp only [h00] at hst
 have hnum:=fun {R:List (List PV)} (w:Int) (h:w=v.length) (hR:R=O.o bts (b++[3]))=>cnumberR_fn O 2 (b++[3]) v.length w (by omega) (by rw[List.length_append];simp;omega) hR h
 obtain⟨b1,hb1⟩:∃ b1,b1=(b++[3])++numB v.length:=⟨_,rfl⟩
 have hb1l:b1.length≤b.length+10:=by
  have:=numB_len (n:=v.length) (k:=8) (by omega)
  rw[hb1];simp only [List.length_append,List.length_cons,List.length_nil];omega
 have hb2:(b++[3])++O.o numB v.length=b1:=by rw[O.h,hb1]
 rw[hb2] at hnum
 rw[← hb1] at e
 have hlen:∀ i,(O.o (btsI b1 v) i).length=(listB b1 v i).length:=fun i=>by rw[O.h,btsI,bts_len]
 have hall:∀ i,v.length≤i→O.o (btsI b1 v) i=O.o bts (b++O.o putC (listC v)):=fun i h=>by simp only [O.h];rw[btsI,listB_all h,e]
 have hall2:∀ i,v.length≤i→(listB b1 v i).length=(b++putC (listC v)).length:=fun i h=>by rw[listB_all h,e]
 have hle:∀ i,(listB b1 v i).length≤(b++putC (listC v)).length:=fun i=>by rw[e];exact listB_le
 have hpos:4≤(b++putC (listC v)).length∨True:=.inr trivial
 have hze:listB b1 v 0=b1:=listB_zero _ _
 have hz1:O.o bts b1=O.o (btsI b1 v) 0:=by simp only [O.h];rw[btsI,hze]
 obtain⟨T,hT⟩:∃ T,T=(b++putC (listC v)).length:=⟨_,rfl⟩
 rw[← hT] at hle hall2
 obtain⟨M,hM⟩:∃ M,M=O.o bts (b++O.o putC (listC v)):=⟨_,rfl⟩
 rw[← hM] at hall
 obtain⟨N,hN⟩:∃ N:Nat,N=v.length:=⟨_,rfl⟩
 obtain⟨z,hz⟩:∃ z:Nat,z=0:=⟨_,rfl⟩
 rw[← hz] at hz1
 have hnil:([]:List UInt8).length=0:=rfl
 constructor
 all_goals
  intro hfit
  intro nn R hR;have hl0:R.length=b.length:=by rw[hR,O.h,bts_len]
  rw[← hT] at hfit
  try rw[← hM]
  clear hb1 hb2 e hpos
  refine go (fn:=Proofs.Tryz.f262) (n:=60) (rv:=[ResultVar.tmp 4]) rfl (by decide) rfl (by decide +kernel) rfl rfl (by simp) fun F L C=>?_
  cbv
  (repeat' first|(refine Na ?_ fun _ _=>?_;(focus lia);cbv)|(refine Named.w8s ?_ fun _ _=>?_;(focus lia);cbv)|(refine CallThen.mk _ _ (C.fn (hnum _ ?_ ?_)) ?_;rotate_left 2;cbv)|(refine Nl fun _ _ hq=>?_;(try simp only [lenS] at hq);cbv)|(refine Nm fun _ _=>?_;cbv)|(refine Br.t ?_ ?_;(focus first|assumption|lia);cbv)|(refine Br.f ?_ ?_;(focus first|assumption|lia);cbv)|(refine Br.mk (fun _=>?_) (fun _=>?_)<;>cbv)|(refine Need.mk ?_ ?_;rotate_left;cbv)|(refine R0 ?_;cbv))
  all_goals try first
   | (clear ih hst hnum hlen hall hall2 hle;lia)
   | (subst_vars;exact(hst rfl).symm)
   | (simp only [List.length_cons,List.length_nil];clear ih hst hnum hlen hall hall2 hle;lia)
  refine LoopThen.mk (C.loopAt (ι:=Nat) [(0,0),(4,4),(7,7),(24,33)] (fun i=>[(0,.ref 50),(24,.int .i64 i),(12,.top),(13,.top),(16,.top),(20,.top)]) (fun i=>[(50,.arr 2 none 1 (O.o (btsI b1 v) i)),(320,.box [.int .i64 3,.int .i64 0,.str ByteArray.empty,.sl false 0 false 4 (O.o Cels.enc v)]),(0,.dead)])
   (fun i=>i≤N∧(i=0∨(listB b1 v i).length≤65536)) (fun i=>N-i) (by decide +kernel) (Start.mk z [(50,.loc 1408)] [] ⟨by omega,.inl hz⟩ ?_) ?_)
  ·cbv
   (repeat' apply And.intro)<;>first|exact True.intro|exact WkR.refl _|rfl|exact WkR.of_eq hz1.symm|lia
  intro i g
  cbv
  have g1:i≤N:=g.1
  have g2:=g.2
  clear g
  have hli:=hlen i
  have hte:i=0→listB b1 v i=b1:=fun h=>by rw[h,hze]
  have hbi:(listB b1 v i).length+10 * Cels.size v≤1000000:=by
   rcases g2 with h|h
   ·rw[hte h];omega
   ·omega
  by_cases hi:i<v.length
  ·obtain⟨x,hx⟩:∃ x,v[i]?=some x:=⟨v[i],by simp [hi]⟩
   have hxs:=Cels.size_at hx
   have hc:=ih x (List.mem_of_getElem? hx) (listB b1 v i) (by omega)
   have hmore:=listB_more (b1:=b1) hx
   have hle2:=hle (i+1)
   have hro:O.o bts (listB b1 v i)=O.o (btsI b1 v) i:=by simp only [O.h];rfl
   have hro2:O.o bts (listB b1 v i++O.o putC x)=O.o (btsI b1 v) (i+1):=by simp only [O.h];rw[btsI,hmore]
   rw[hmore] at hle2
   by_cases hf:(listB b1 v i++putC x).length≤65536
   ·have hc:=hc.1 hf (nn:=2) hro.symm
    rw[hro2] at hc
    have hinv:i+1=0∨(listB b1 v (i+1)).length≤65536:=.inr (by rw[hmore];exact hf)
    clear ih hst hnum hlen hall hall2 hle hmore hro hro2
    (repeat' first|(refine Na ?_ fun _ _=>?_;(focus lia);cbv)|(refine Ex.cel O hx ?_ ?_;(focus lia);cbv)|(refine CallThen.mk _ _ (C.fn (hc)) ?_;cbv)|(refine Back.up [(50,.loc 2048)] [] ?_ ?_ fun _ _=>?_;rotate_left 2;cbv;refine And.intro ?_ ?_)|(refine Nl fun _ _ hq=>?_;(try simp only [lenS] at hq);cbv)|(refine Nm fun _ _=>?_;cbv)|(refine Br.t ?_ ?_;(focus first|assumption|lia);cbv)|(refine Br.f ?_ ?_;(focus first|assumption|lia);cbv)|(refine Br.mk (fun _=>?_) (fun _=>?_)<;>cbv)|(refine Need.mk ?_ ?_;rotate_left;cbv)|(refine R0 ?_;cbv))
    all_goals(repeat' apply And.intro)
    all_goals first
     | exact True.intro
     | exact WkR.refl _
     | exact hinv
     | (clear hx hc;lia)
     | (refine WkR.of_eq ?_;subst_vars;rfl)
     | trace_state
   ·have hc:=hc.2 (by omega) (nn:=2) hro.symm
    clear ih hst hnum hlen hall hall2 hle hmore hro hro2
    (repeat' first|(refine Na ?_ fun _ _=>?_;(focus lia);cbv)|(refine Ex.cel O hx ?_ ?_;(focus lia);cbv)|(refine CallThen.mk _ _ (C.fn (hc)) ?_;cbv)|(refine R0 ?_;cbv)|(refine Nl fun _ _ hq=>?_;(try simp only [lenS] at hq);cbv)|(refine Nm fun _ _=>?_;cbv)|(refine Br.t ?_ ?_;(focus first|assumption|lia);cbv)|(refine Br.f ?_ ?_;(focus first|assumption|lia);cbv)|(refine Br.mk (fun _=>?_) (fun _=>?_)<;>cbv)|(refine Need.mk ?_ ?_;rotate_left;cbv)|(refine R0 ?_;cbv))
    all_goals first
     | (exfalso;clear hx hc;omega)
     | (clear hx hc;lia)
     | trace_state
  ·have hall:=hall i (by omega)
   have hall2:=hall2 i (by omega)
   clear ih hst hnum hlen hle
   (repeat' first|(refine Na ?_ fun _ _=>?_;(focus lia);cbv)|(refine RetThen.mk [(1,.loc 50)] [] ?_;cbv)|(refine Nl fun _ _ hq=>?_;(try simp only [lenS] at hq);cbv)|(refine Nm fun _ _=>?_;cbv)|(refine Br.t ?_ ?_;(focus first|assumption|lia);cbv)|(refine Br.f ?_ ?_;(focus first|assumption|lia);cbv)|(refine Br.mk (fun _=>?_) (fun _=>?_)<;>cbv)|(refine Need.mk ?_ ?_;rotate_left;cbv)|(refine R0 ?_;cbv))
   all_goals first
    | exact⟨.of_eq hall.symm,trivial⟩
    | (exfalso;clear hall;lia)
    | (clear hall;lia)
    | trace_state
set_option maxHeartbeats 1000000 in
theorem put0_list (O:Opq) (v:List Cel) (hv:Cels.size v≤4096)  (ih:∀ x∈v,∀ b:List UInt8,b.length+10 * x.size≤1000000→PutOk O b x):PutOk0 O (listC v):=by
 have h00:O.o bts []=[]:=by rw[O.h];rfl
 have hvl:=Cels.len_size v
 have hen:=Cels.en_len O v
 have e:([]:List UInt8)++putC (listC v)=((([]:List UInt8)++[3])++numB v.length)++putCs v:=by rw[listC,putC,if_neg (by decide),if_neg (by decide)];simp
 have hst:=fun {w:Int} (hw:w=3)=>bts_snoc O (([]:List UInt8)) (n:=3) (by omega) hw
 try simp only [h00] at hst
 have hnum:=fun {R:List (List PV)} (w:Int) (h:w=v.length) (hR:R=O.o bts (([]:List UInt8)++[3]))=>cnumberR_fn O 2 (([]:List UInt8)++[3]) v.length w (by omega) (by rw[List.length_append];simp) hR h
 obtain⟨b1,hb1⟩:∃ b1,b1=(([]:List UInt8)++[3])++numB v.length:=⟨_,rfl⟩
 have hb1l:b1.length≤([]:List UInt8).length+10:=by
  have:=numB_len (n:=v.length) (k:=8) (by omega)
  rw[hb1];simp only [List.length_append,List.length_cons,List.length_nil];omega
 have hb2:(([]:List UInt8)++[3])++O.o numB v.length=b1:=by rw[O.h,hb1]
 rw[hb2] at hnum
 rw[← hb1] at e
 have hlen:∀ i,(O.o (btsI b1 v) i).length=(listB b1 v i).length:=fun i=>by rw[O.h,btsI,bts_len]
 have hall:∀ i,v.length≤i→O.o (btsI b1 v) i=O.o bts (([]:List UInt8)++O.o putC (listC v)):=fun i h=>by simp only [O.h];rw[btsI,listB_all h,e]
 have hall2:∀ i,v.length≤i→(listB b1 v i).length=(([]:List UInt8)++putC (listC v)).length:=fun i h=>by rw[listB_all h,e]
 have hle:∀ i,(listB b1 v i).length≤(([]:List UInt8)++putC (listC v)).length:=fun i=>by rw[e];exact listB_le
 have hpos:4≤(([]:List UInt8)++putC (listC v)).length∨True:=.inr trivial
 have hze:listB b1 v 0=b1:=listB_zero _ _
 have hz1:O.o bts b1=O.o (btsI b1 v) 0:=by simp only [O.h];rw[btsI,hze]
 obtain⟨T,hT⟩:∃ T,T=(([]:List UInt8)++putC (listC v)).length:=⟨_,rfl⟩
 rw[← hT] at hle hall2
 obtain⟨M,hM⟩:∃ M,M=O.o bts (([]:List UInt8)++O.o putC (listC v)):=⟨_,rfl⟩
 rw[← hM] at hall
 obtain⟨N,hN⟩:∃ N:Nat,N=v.length:=⟨_,rfl⟩
 obtain⟨z,hz⟩:∃ z:Nat,z=0:=⟨_,rfl⟩
 rw[← hz] at hz1
 have hnil:([]:List UInt8).length=0:=rfl
 constructor
 all_goals
  intro hfit
  skip
  rw[← hT] at hfit
  try rw[← hM]
  clear hb1 hb2 e hpos
  refine go (fn:=Proofs.Tryz.f262) (n:=60) (rv:=[ResultVar.tmp 4]) rfl (by decide) rfl (by decide +kernel) rfl rfl (by simp) fun F L C=>?_
  cbv
  (repeat' first|(refine Na ?_ fun _ _=>?_;(focus lia);cbv)|(refine Named.w8s ?_ fun _ _=>?_;(focus lia);cbv)|(refine CallThen.mk _ _ (C.fn (hnum _ ?_ ?_)) ?_;rotate_left 2;cbv)|(refine Nl fun _ _ hq=>?_;(try simp only [lenS] at hq);cbv)|(refine Nm fun _ _=>?_;cbv)|(refine Br.t ?_ ?_;(focus first|assumption|lia);cbv)|(refine Br.f ?_ ?_;(focus first|assumption|lia);cbv)|(refine Br.mk (fun _=>?_) (fun _=>?_)<;>cbv)|(refine Need.mk ?_ ?_;rotate_left;cbv)|(refine R0 ?_;cbv))
  all_goals try first
   | (clear ih hst hnum hlen hall hall2 hle;lia)
   | (subst_vars;exact(hst rfl).symm)
   | (simp only [List.length_cons,List.length_nil];clear ih hst hnum hlen hall hall2 hle;lia)
  refine LoopThen.mk (C.loopAt (ι:=Nat) [(0,0),(4,4),(7,7),(24,33)] (fun i=>[(0,.ref 50),(24,.int .i64 i),(12,.top),(13,.top),(16,.top),(20,.top)]) (fun i=>[(50,.arr 2 none 1 (O.o (btsI b1 v) i)),(320,.box [.int .i64 3,.int .i64 0,.str ByteArray.empty,.sl false 0 false 4 (O.o Cels.enc v)])])
   (fun i=>i≤N∧(i=0∨(listB b1 v i).length≤65536)) (fun i=>N-i) (by decide +kernel) (Start.mk z [(50,.loc 1408)] [] ⟨by omega,.inl hz⟩ ?_) ?_)
  ·cbv
   (repeat' apply And.intro)<;>first|exact True.intro|exact WkR.refl _|rfl|exact WkR.of_eq hz1.symm|lia
  intro i g
  cbv
  have g1:i≤N:=g.1
  have g2:=g.2
  clear g
  have hli:=hlen i
  have hte:i=0→listB b1 v i=b1:=fun h=>by rw[h,hze]
  have hbi:(listB b1 v i).length+10 * Cels.size v≤1000000:=by
   rcases g2 with h|h
   ·rw[hte h];omega
   ·omega
  by_cases hi:i<v.length
  ·obtain⟨x,hx⟩:∃ x,v[i]?=some x:=⟨v[i],by simp [hi]⟩
   have hxs:=Cels.size_at hx
   have hc:=ih x (List.mem_of_getElem? hx) (listB b1 v i) (by omega)
   have hmore:=listB_more (b1:=b1) hx
   have hle2:=hle (i+1)
   have hro:O.o bts (listB b1 v i)=O.o (btsI b1 v) i:=by simp only [O.h];rfl
   have hro2:O.o bts (listB b1 v i++O.o putC x)=O.o (btsI b1 v) (i+1):=by simp only [O.h];rw[btsI,hmore]
   rw[hmore] at hle2
   by_cases hf:(listB b1 v i++putC x).length≤65536
   ·have hc:=hc.1 hf (nn:=2) hro.symm
    rw[hro2] at hc
    have hinv:i+1=0∨(listB b1 v (i+1)).length≤65536:=.inr (by rw[hmore];exact hf)
    clear ih hst hnum hlen hall hall2 hle hmore hro hro2
    (repeat' first|(refine Na ?_ fun _ _=>?_;(focus lia);cbv)|(refine Ex.cel O hx ?_ ?_;(focus lia);cbv)|(refine CallThen.mk _ _ (C.fn (hc)) ?_;cbv)|(refine Back.up [(50,.loc 2048)] [] ?_ ?_ fun _ _=>?_;rotate_left 2;cbv;refine And.intro ?_ ?_)|(refine Nl fun _ _ hq=>?_;(try simp only [lenS] at hq);cbv)|(refine Nm fun _ _=>?_;cbv)|(refine Br.t ?_ ?_;(focus first|assumption|lia);cbv)|(refine Br.f ?_ ?_;(focus first|assumption|lia);cbv)|(refine Br.mk (fun _=>?_) (fun _=>?_)<;>cbv)|(refine Need.mk ?_ ?_;rotate_left;cbv)|(refine R0 ?_;cbv))
    all_goals(repeat' apply And.intro)
    all_goals first
     | exact True.intro
     | exact WkR.refl _
     | exact hinv
     | (clear hx hc;lia)
     | (refine WkR.of_eq ?_;subst_vars;rfl)
     | trace_state
   ·have hc:=hc.2 (by omega) (nn:=2) hro.symm
    clear ih hst hnum hlen hall hall2 hle hmore hro hro2
    (repeat' first|(refine Na ?_ fun _ _=>?_;(focus lia);cbv)|(refine Ex.cel O hx ?_ ?_;(focus lia);cbv)|(refine CallThen.mk _ _ (C.fn (hc)) ?_;cbv)|(refine R0 ?_;cbv)|(refine Nl fun _ _ hq=>?_;(try simp only [lenS] at hq);cbv)|(refine Nm fun _ _=>?_;cbv)|(refine Br.t ?_ ?_;(focus first|assumption|lia);cbv)|(refine Br.f ?_ ?_;(focus first|assumption|lia);cbv)|(refine Br.mk (fun _=>?_) (fun _=>?_)<;>cbv)|(refine Need.mk ?_ ?_;rotate_left;cbv)|(refine R0 ?_;cbv))
    all_goals first
     | (exfalso;clear hx hc;omega)
     | (clear hx hc;lia)
     | trace_state
  ·have hall:=hall i (by omega)
   have hall2:=hall2 i (by omega)
   clear ih hst hnum hlen hle
   (repeat' first|(refine Na ?_ fun _ _=>?_;(focus lia);cbv)|(refine RetThen.mk [(0,.loc 50)] [] ?_;cbv)|(refine Nl fun _ _ hq=>?_;(try simp only [lenS] at hq);cbv)|(refine Nm fun _ _=>?_;cbv)|(refine Br.t ?_ ?_;(focus first|assumption|lia);cbv)|(refine Br.f ?_ ?_;(focus first|assumption|lia);cbv)|(refine Br.mk (fun _=>?_) (fun _=>?_)<;>cbv)|(refine Need.mk ?_ ?_;rotate_left;cbv)|(refine R0 ?_;cbv))
   all_goals first
    | exact⟨.of_eq hall.symm,trivial⟩
    | (exfalso;clear hall;lia)
    | (clear hall;lia)
    | trace_state
theorem put_ok (O:Opq):∀ (n:Nat) (c:Cel) (b:List UInt8),c.size≤n→n≤4096→pureC c=true→shortC c=true→b.length+10 * c.size≤1000000→PutOk O b c
 | 0,c,b,h,_,_,_,_=>by rw[Cel.size_list] at h;omega
 | n+1,.mk k m t l,b,h,hn,hp,ht,hb=>by
  have hs:=Cel.size_list (.mk k m t l)
  rcases pureC_kind hp with rfl|rfl|rfl
  ·have e:=pure_num hp rfl
   rw[e] at hp ⊢
   simp only [pureC,numC,if_true,decide_eq_true_eq] at hp
   exact put_num O m ⟨hp.1,hp.2.1⟩ b (by omega)
  ·have e:=pure_text hp rfl
   rw[e]
   simp only [shortC,Bool.and_eq_true,decide_eq_true_eq] at ht
   exact put_text O t ht.1 b (by omega)
  ·obtain⟨e,hpl⟩:=pure_list hp rfl
   rw[e]
   simp only [shortC,Bool.and_eq_true,decide_eq_true_eq] at ht
   have hs:(Cel.mk 3 m t l).size=1+Cels.size l:=rfl
   refine put_list O l (by omega) b (by omega) fun x hx b' hb'=>?_
   have:=Cels.size_mem hx
   exact put_ok O n x b' (by omega) (by omega) (hpl x hx) (shortCs_all ht.2 x hx) hb'
theorem put0_ok (O:Opq) (c:Cel) (h:celErr c=0):PutOk0 O c:=by
 obtain⟨hg,hs⟩:=celErr_good h
 have hp:=hg.pure
 have ht:=hg.short
 obtain⟨k,m,t,l⟩:=c
 have hsz:(Cel.mk k m t l).size=1+Cels.size l:=rfl
 rcases pureC_kind hp with rfl|rfl|rfl
 ·have e:=pure_num hp rfl
  rw[e] at hp ⊢
  simp only [pureC,numC,if_true,decide_eq_true_eq] at hp
  exact put0_num O m ⟨hp.1,hp.2.1⟩
 ·have e:=pure_text hp rfl
  rw[e]
  simp only [shortC,Bool.and_eq_true,decide_eq_true_eq] at ht
  exact put0_text O t ht.1
 ·obtain⟨e,hpl⟩:=pure_list hp rfl
  rw[e]
  simp only [shortC,Bool.and_eq_true,decide_eq_true_eq] at ht
  refine put0_list O l (by omega) fun x hx b' hb'=>?_
  have:=Cels.size_mem hx
  exact put_ok O 4096 x b' (by omega) (by omega) (hpl x hx) (shortCs_all ht.2 x hx) hb'
theorem encode_fn (O:Opq) (c:Cel) (h:c.size≤1099511627):Fn prog 202 [.agg (c.en O)] [] [.sl false 0 false 1 (O.o bts (O.o encB c)),.int .i64 (O.o encE c)] []:=by
 have hck:=ccheck_fn O c (by omega)
 rw[Cel.en_eq O] at hck
 have hce:O.o celErr c=celErr c:=by rw[O.h]
 have h00:O.o bts []=[]:=by rw[O.h];rfl
 by_cases h0:celErr c=0
 ·have hp:=put0_ok O c h0
  rw[hce,h0] at hck
  by_cases hf:(putC c).length≤65536
  ·have he:O.o encE c=0∧O.o encB c=putC c:=by simp only [O.h];rw[encB,encE,if_neg (by simp [h0]),if_pos hf];exact⟨rfl,rfl⟩
   have hp:=hp.1 hf
   rw[List.nil_append] at hp
   have hM:O.o bts (O.o encB c)=O.o bts (O.o putC c):=by rw[he.2,O.h putC]
   obtain⟨M,eM⟩:∃ M,M=O.o bts (O.o putC c):=⟨_,rfl⟩
   rw[← eM] at hp hM
   rw[hM,he.1]
   clear hM he hf hce h0
   obtain⟨k,n,t,l⟩:=c
   refine go (fn:=Proofs.Tryz.f202) (n:=15) (rv:=[ResultVar.tmp 2,ResultVar.tmp 3]) rfl (by decide) rfl (by decide +kernel) rfl rfl (by simp) fun F L C=>?_
   cbv
   (repeat' first|(refine Na ?_ fun _ _=>?_;(focus lia);cbv)|(refine CallThen.mk _ _ (C.fn (hck)) ?_;cbv)|(refine CallThen.mk _ _ (C.fn (hp)) ?_;cbv)|(refine RetThen.mk [] [896] ?_;cbv)|(refine Nl fun _ _ hq=>?_;(try simp only [lenS] at hq);cbv)|(refine Nm fun _ _=>?_;cbv)|(refine Br.t ?_ ?_;(focus first|assumption|lia);cbv)|(refine Br.f ?_ ?_;(focus first|assumption|lia);cbv)|(refine Br.mk (fun _=>?_) (fun _=>?_)<;>cbv)|(refine Need.mk ?_ ?_;rotate_left;cbv)|(refine R0 ?_;cbv))
   all_goals first
    | (refine Nm fun rs e=>⟨.of_eq e.symm,by cbv⟩;done)
    | (refine⟨?_,trivial⟩;refine WkR.of_eq ?_;symm;assumption)
    | trace_state
  ·have he:O.o encE c=3∧O.o encB c=[]:=by simp only [O.h];rw[encB,encE,if_neg (by simp [h0]),if_neg hf];exact⟨rfl,rfl⟩
   have hp:=hp.2 (by rw[List.nil_append];omega)
   rw[he.1,he.2,h00]
   clear he hf hce h0
   obtain⟨k,n,t,l⟩:=c
   refine go (fn:=Proofs.Tryz.f202) (n:=15) (rv:=[ResultVar.tmp 2,ResultVar.tmp 3]) rfl (by decide) rfl (by decide +kernel) rfl rfl (by simp) fun F L C=>?_
   cbv
   (repeat' first|(refine Na ?_ fun _ _=>?_;(focus lia);cbv)|(refine CallThen.mk _ _ (C.fn (hck)) ?_;cbv)|(refine CallThen.mk _ _ (C.fn (hp)) ?_;cbv)|(refine Nl fun _ _ hq=>?_;(try simp only [lenS] at hq);cbv)|(refine Nm fun _ _=>?_;cbv)|(refine Br.t ?_ ?_;(focus first|assumption|lia);cbv)|(refine Br.f ?_ ?_;(focus first|assumption|lia);cbv)|(refine Br.mk (fun _=>?_) (fun _=>?_)<;>cbv)|(refine Need.mk ?_ ?_;rotate_left;cbv)|(refine R0 ?_;cbv))
   all_goals first
    | exact⟨rfl,trivial⟩
    | trace_state
 ·have he:O.o encE c=celErr c∧O.o encB c=[]:=by simp only [O.h];rw[encB,encE,if_pos h0,if_neg h0];exact⟨rfl,rfl⟩
  rw[he.1,he.2,h00]
  rw[hce] at hck
  obtain⟨v,hv⟩:∃ v,v=celErr c:=⟨_,rfl⟩
  rw[← hv] at h0 hck ⊢
  clear he hce hv
  obtain⟨k,n,t,l⟩:=c
  refine go (fn:=Proofs.Tryz.f202) (n:=15) (rv:=[ResultVar.tmp 2,ResultVar.tmp 3]) rfl (by decide) rfl (by decide +kernel) rfl rfl (by simp) fun F L C=>?_
  cbv
  (repeat' first|(refine Na ?_ fun _ _=>?_;(focus lia);cbv)|(refine CallThen.mk _ _ (C.fn (hck)) ?_;cbv)|(refine Nl fun _ _ hq=>?_;(try simp only [lenS] at hq);cbv)|(refine Nm fun _ _=>?_;cbv)|(refine Br.t ?_ ?_;(focus first|assumption|lia);cbv)|(refine Br.f ?_ ?_;(focus first|assumption|lia);cbv)|(refine Br.mk (fun _=>?_) (fun _=>?_)<;>cbv)|(refine Need.mk ?_ ?_;rotate_left;cbv)|(refine R0 ?_;cbv))
  all_goals first
   | exact⟨rfl,trivial⟩
   | (exfalso;lia)
   | trace_state
end Go.Sym
