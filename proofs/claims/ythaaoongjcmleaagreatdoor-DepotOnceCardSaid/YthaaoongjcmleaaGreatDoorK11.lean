/- A subscription is set in, or struck out. -/
import Derived.Test.YthaaoongjcmleaaGreatDoorJ10
set_option linter.all false
set_option linter.unusedVariables false
set_option linter.unusedSimpArgs false
namespace Go.Sym
open Go Go.Proofs.Tryz
set_option maxRecDepth 100000
set_option maxHeartbeats 2000000 in
theorem insertS_fn (O:Opq) (d:List Sub) (i:Int) (f:Sub) (v:List (List PV)) (hv:v=[f.enc]) (hd:d.length≤1099511627) (h0:0≤i) (h1:i≤d.length):Fn prog 134 [.ref 0,.int .i64 i,.ref 1] [.arr 0 none 2 (O.o Subs.enc d),.arr 2 none 2 v]
  [.sl false 0 false 2 (O.o Subs.enc (O.o insKZ d i f))] [.dead,.dead]:=by
 have hlen:=Subs.len O d
 have hvl:v.length=1:=by rw[hv];rfl
 have hvn:v≠[]:=by rw[hv];simp
 have enc_ins:Subs.enc (insKZ d i f)=(Subs.enc d).take i.toNat++[f.enc]++(Subs.enc d).drop i.toNat:=map_insKZ Sub.enc d i f
 refine .inl (Fn.capAny fun c hc=>?_)
 refine goB (fn:=Proofs.Tryz.f134) (n:=92) (rv:=[ResultVar.tmp 6]) rfl (by decide) rfl (by decide +kernel) rfl rfl (by simp) fun F L C=>?_
 cbv
 (repeat' first|(refine Na ?_ fun _ _=>?_;(focus lia);cbv)|(refine RetThen.mk [] [1728,2688,3968] ?_;cbv)|(refine CallThen.mk _ _ (C.fn (overlaps_fn (fn:=Proofs.Tryz.f152) (tS:=42) (tR:=4) (e:=168) (sz:=2) rfl (by decide) rfl (by kernel_rfl) (by kernel_rfl) rfl (fun w=>rfl) (by decide) (by decide) hvn (by lia))) ?_;cbv)|(refine Nl fun _ _ hq=>?_;(try simp only [lenS] at hq);cbv)|(refine Nm fun _ _=>?_;cbv)|(refine Br.t ?_ ?_;(focus first|assumption|lia);cbv)|(refine Br.f ?_ ?_;(focus first|assumption|lia);cbv)|(refine Br.mk (fun _=>?_) (fun _=>?_)<;>cbv)|(refine Need.mk ?_ ?_;rotate_left;cbv)|(refine R0 ?_;cbv))
 all_goals try first
  | lia
  | (dsimp only;lia)
 ·rename_i B eB hB F eF
  rw[eF,eB]
  refine⟨WkR.of_eq ?_,trivial⟩
  simp only [O.h] at *
  rw[enc_ins,show i.toNat=d.length by lia,List.take_of_length_le (by lia),List.drop_of_length_le (by lia),List.append_nil,hv]
 ·rename_i n1 e1 n2 e2 m em L eL hne s1 es1 cc ecc hlt t1 et1 s2 es2 s3 es3 Z eZ hZ A eA hA B eB hB i2 ei2 k2 ek2 CC eC hC w1 ew1 s4 es4 i3 ei3 k3 ek3 i4 ei4 k4 ek4 Y eY hY D eD hD w2 ew2 F eF
  rw[eF]
  refine⟨WkR.of_eq ?_,trivial⟩
  have qm:m=1:=by lia
  have qL:L=d.length:=by lia
  have qi:i.toNat<d.length:=by lia
  have q1:t1=i.toNat:=by lia
  have q2:i2=i.toNat:=by lia
  have qz:Z.length=d.length+1-i.toNat:=by clear hA hB hC hY hD hq;lia
  have qA:A.length=i.toNat:=by clear hB hC hY hD hq;lia
  have qB:B.length=d.length+1:=by clear hC hY hD hq;lia
  clear hA hB hC hY hD hq
  have q3:k2=d.length+1-i.toNat:=by lia
  have q4:i2+min v.length k2=i.toNat+1:=by lia
  have q5:i3=i.toNat+1:=by lia
  have qC:CC.length=d.length+1:=by rw[eC,List.length_append,List.length_append,List.length_take,List.length_take,List.length_drop];lia
  have q6:k3=d.length-i.toNat:=by lia
  have q7:i4=i.toNat:=by lia
  have q8:k4=d.length-i.toNat:=by lia
  have qY:Y.length=d.length-i.toNat:=by rw[eY,List.length_take,List.length_drop];lia
  have q9:i3+min Y.length k3=d.length+1:=by lia
  rw[q4,q2,q3] at eC
  rw[q9,q5,q6] at eD
  rw[q7,q8] at eY
  rw[q1] at eA
  simp only [O.h,List.drop_zero] at *
  rw[enc_ins,← hv]
  symm
  refine ins2 (Subs.enc_len d) qi hvl qz (r1:=B) (r2:=CC) (by rw[eB,eA]) eC ?_
  rw[eD,eY,List.take_take,Nat.min_self]
 ·rename_i n1 e1 n2 e2 m em L eL hne s1 es1 cc ecc hge s2 es2 B eB hB s3 es3 i2 ei2 k2 ek2 s4 es4 i3 ei3 k3 ek3 i4 ei4 k4 ek4 Y eY hY CC eC hC w1 ew1 i5 ei5 k5 ek5 D eD hD w2 ew2 F eF
  rw[eF]
  refine⟨WkR.of_eq ?_,trivial⟩
  have qm:m=1:=by lia
  have qL:L=d.length:=by lia
  have qi:i.toNat<d.length:=by lia
  have qB:B.length=d.length+1:=by clear hC hY hD hq;lia
  clear hC hY hD hq
  have q5:i3=i.toNat+1:=by lia
  have q6:k3=d.length-i.toNat:=by lia
  have q7:i4=i.toNat:=by lia
  have q8:k4=d.length+1-i.toNat:=by lia
  have qY:Y.length=d.length+1-i.toNat:=by rw[eY,List.length_take,List.length_drop];lia
  have q9:i3+min Y.length k3=d.length+1:=by lia
  have q2:i5=i.toNat:=by lia
  have qC:CC.length=d.length+1:=by rw[eC,List.length_append,List.length_append,List.length_take,List.length_take,List.length_drop];lia
  have q3:k5=d.length+1-i.toNat:=by lia
  have q4:i5+min v.length k5=i.toNat+1:=by lia
  have qz:s2.toNat-d.length=1:=by lia
  rw[q9,q5,q6] at eC
  rw[q4,q2,q3] at eD
  rw[q7,q8] at eY
  rw[hlen,qz] at eB
  simp only [O.h] at *
  rw[enc_ins,← hv]
  symm
  exact ins3 (Subs.enc_len d) qi hvl (by simp) eB (by rw[eC,eY]) eD
set_option maxHeartbeats 2000000 in
theorem deleteS_fn (O:Opq) (d:List Sub) (i j:Int) (hj:j=i+1) (hd:d.length≤1099511627) (h0:0≤i) (h1:i<d.length):Fn prog 135 [.ref 0,.int .i64 i,.int .i64 j] [.arr 0 none 2 (O.o Subs.enc d)]
  [.sl false 0 false 2 (O.o Subs.enc (O.o List.eraseIdx d i.toNat))] [.dead]:=by
 have hlen:=Subs.len O d
 refine .inl (Fn.capAny fun c hc=>?_)
 refine goB (fn:=Proofs.Tryz.f135) (n:=30) (rv:=[ResultVar.tmp 6]) rfl (by decide) rfl (by decide +kernel) rfl rfl (by simp) fun F L C=>?_
 cbv
 (repeat' first|(refine Na ?_ fun _ _=>?_;(focus lia);cbv)|(refine RetThen.mk [] [1792] ?_;cbv)|(refine Nl fun _ _ hq=>?_;(try simp only [lenS] at hq);cbv)|(refine Nm fun _ _=>?_;cbv)|(refine Br.t ?_ ?_;(focus first|assumption|lia);cbv)|(refine Br.f ?_ ?_;(focus first|assumption|lia);cbv)|(refine Br.mk (fun _=>?_) (fun _=>?_)<;>cbv)|(refine Need.mk ?_ ?_;rotate_left;cbv)|(refine R0 ?_;cbv))
 all_goals try first
  | lia
  | (dsimp only;lia)
 all_goals
  refine⟨.of_eq ?_,trivial⟩
  subst_vars
  have e:∀ n,Subs.enc (d.eraseIdx n)=(Subs.enc d).take n++(Subs.enc d).drop (n+1):=fun n=>by
   simp only [Subs.enc,List.eraseIdx_eq_take_drop_succ,List.map_append,List.map_take,List.map_drop]
  simp only [O.h] at hlen ⊢
  refine(e i.toNat).trans ?_
  rw[show(i+1).toNat=i.toNat+1 by omega,show i.toNat-Int.toNat 0=i.toNat by simp,List.take_of_length_le (l:=List.drop (i.toNat+1) (Subs.enc d)) (by rw[List.length_drop];exact Nat.le_refl _)]
end Go.Sym
