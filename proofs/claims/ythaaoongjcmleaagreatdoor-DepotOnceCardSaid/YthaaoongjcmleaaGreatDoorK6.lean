/- A batch; what is asked. -/
import Derived.Test.YthaaoongjcmleaaGreatDoorK5
set_option linter.all false
set_option linter.unusedVariables false
set_option linter.unusedSimpArgs false
namespace Go.Sym
open Go Go.Proofs.Tryz
set_option maxRecDepth 100000
theorem Chs.snoc (O:Opq) (l:List Change) (c:Change):O.o (Chs.enc O) (l++[c])=O.o (Chs.enc O) l++[c.enc O]:=by
 simp only [O.h (Chs.enc O)];simp [Chs.enc]
set_option maxHeartbeats 1000000 in
theorem batch_fn (O : Opq) (l : List Ndoc) (ops : List Opn) (r : List (List PV)) (total : Int) (er : r = O.o (Ops.enc O) ops) (hm : docsOk l = true) (hl : l.length ≤ 1000) (hol : ops.length ≤ 1099511627776) (ht : 0 ≤ total ∧ total ≤ 2147483643) (hod : ∀ o ∈ ops, o.doc.length ≤ 1099511627 ∧ o.want.length ≤ 1099511627)
    (R1:List Ndoc) (R2:Answer) (R3:List Change) (hR:batchR l ops total=(R1,R2,R3)) :
    Fn prog 127 [.sl false 0 false 2 (O.o (Nms.enc O) l),.sl true 0 false 11 r,.int .i64 total] [] [.sl false 0 false 2 (O.o (Nms.enc O) R1),.agg (R2.enc O),.ref 0] [.arr 0 none 4 (O.o (Chs.enc O) R3)]:=by
  subst er
  have hlen:=Ops.len O ops
  have h0:O.o Doc.enc []=[]:=by rw[O.h];rfl
  have h1:O.o (Nms.enc O) []=[]:=by rw[O.h];rfl
  have h2:O.o (Chs.enc O) []=[]:=by rw[O.h];rfl
  have h3:O.o Prs.enc []=[]:=by rw[O.h];rfl
  have hco:=contOp_fn O ops _ rfl hol
  have hoa:O.o (List.any ops) notWrites=ops.any notWrites:=by rw[O.h]
  by_cases hb:ops.length<1∨4<ops.length∨ops.any notWrites=true
  · have hr:R1=l∧R2=refA 1∧R3=[]:=by
      rw[batchR,if_pos hb] at hR
      cases hR;exact⟨rfl,rfl,rfl⟩
    obtain⟨rfl,rfl,rfl⟩:=hr
    rw[← hoa] at hb
    obtain⟨B,eB⟩:∃ B,B=O.o (List.any ops) notWrites:=⟨_,rfl⟩
    rw[← eB] at hco hb
    have hb3:B=false→ops.length<1∨4<ops.length:=fun e=>by
      rcases hb with h|h|h
      · exact .inl h
      · exact .inr h
      · rw[e] at h;cases h
    clear hR hod eB hoa hb
    cases B
    all_goals
      try have hb4:=hb3 rfl
      clear hb3
      refine go (fn:=Proofs.Tryz.f127) (n:=65) (rv:=[ResultVar.tmp 6,ResultVar.cell 7 61,ResultVar.tmp 8]) rfl (by decide) rfl (by decide +kernel) rfl rfl (by simp) fun F L C=>?_
      cbv
      (repeat' first|(refine Na ?_ fun _ _=>?_;(focus lia);cbv)|(refine CallThen.mk _ _ (C.fn (hco)) ?_;cbv)|(refine CallThen.mk _ _ (C.fn (refused_fn O _)) ?_;cbv)|(refine RetThen.mk [(0,.nil 4)] [] ?_;cbv)|(refine Nl fun _ _ hq=>?_;(try simp only [lenS] at hq);cbv)|(refine Nm fun _ _=>?_;cbv)|(refine Br.t ?_ ?_;(focus first|assumption|lia);cbv)|(refine Br.f ?_ ?_;(focus first|assumption|lia);cbv)|(refine Br.mk (fun _=>?_) (fun _=>?_)<;>cbv)|(refine Need.mk ?_ ?_;rotate_left;cbv)|(refine R0 ?_;cbv))
      all_goals first
        | (exfalso;clear hco;lia)
        | ((repeat' apply And.intro)<;>first|rfl|exact WkR.refl _|exact h0|exact h1|exact h2|exact h3|exact True.intro|trace_state)
  · have hrun:runB l total ops l []=(R1,R2,R3):=by rw[← hR,batchR,if_neg hb]
    have hB:O.o (List.any ops) notWrites=false:=by
      rw[hoa];cases h:ops.any notWrites with
      | false=>rfl
      | true=>exact absurd (.inr (.inr h)) hb
    rw[hB] at hco
    obtain⟨N,hN⟩:∃ N:Nat,N=ops.length:=⟨_,rfl⟩
    obtain⟨z,hz⟩:∃ z:Nat,z=0:=⟨_,rfl⟩
    obtain⟨w,hw⟩:∃ z:List Change,z=[]:=⟨_,rfl⟩
    have hw0:O.o (Chs.enc O) w=[]:=by rw[hw];exact h2
    have hwl:w.length=z:=by rw[hw,hz];rfl
    rw[← hw] at hrun
    clear hR hoa
    refine go (fn:=Proofs.Tryz.f127) (n:=65) (rv:=[ResultVar.tmp 6,ResultVar.cell 7 61,ResultVar.tmp 8]) rfl (by decide) rfl (by decide +kernel) rfl rfl (by simp) fun F L C=>?_
    cbv
    (repeat' first|(refine Na ?_ fun _ _=>?_;(focus lia);cbv)|(refine CallThen.mk _ _ (C.fn (hco)) ?_;cbv)|(refine Nl fun _ _ hq=>?_;(try simp only [lenS] at hq);cbv)|(refine Nm fun _ _=>?_;cbv)|(refine Br.t ?_ ?_;(focus first|assumption|lia);cbv)|(refine Br.f ?_ ?_;(focus first|assumption|lia);cbv)|(refine Br.mk (fun _=>?_) (fun _=>?_)<;>cbv)|(refine Need.mk ?_ ?_;rotate_left;cbv)|(refine R0 ?_;cbv))
    all_goals try(exfalso;clear hco hod;lia)
    refine LoopThen.mk (C.loopAt (ι:=Nat×List Ndoc×List Change) [(0,0),(6,6),(8,8),(10,10),(12,14),(32,60)] (fun x=>[(0,.sl false 0 false 2 (O.o (Nms.enc O) x.2.1)),(10,.ref 50),(32,.int .i64 x.1)]) (fun x=>[(50,.arr 0 none 4 (O.o (Chs.enc O) x.2.2)),(576,.box [.int .i64 0,.bool false,.nils,.nils,.nils,.int .i64 0,.int .i64 0,.nils])])
      (fun x=>x.1≤N∧docsOk x.2.1=true∧x.2.1.length≤1000+x.1∧x.2.2.length=x.1∧runB l total (ops.drop x.1) x.2.1 x.2.2=(R1,R2,R3)) (fun x=>N-x.1) (by decide +kernel) (Start.mk (z,l,w) [(50,.nil 4)] [] ⟨by show z≤N;omega,hm,by show l.length≤1000+z;omega,hwl,by rw[hz];exact hrun⟩ ?_) ?_)
    · cbv
      (repeat' apply And.intro)<;>first|exact True.intro|exact WkR.refl _|rfl|exact hw0|(clear hco hod;lia)
    intro x g
    cbv
    obtain⟨i,now,out⟩:=x
    have g1:i≤N:=g.1
    have g2:docsOk now=true:=g.2.1
    have g3:now.length≤1000+i:=g.2.2.1
    have g4:out.length=i:=g.2.2.2.1
    have g5:runB l total (ops.drop i) now out=(R1,R2,R3):=g.2.2.2.2
    have hcl:=Chs.len O out
    clear g hco hrun
    by_cases hi:i<ops.length
    · obtain⟨x,hx⟩:∃ x,ops[i]?=some x:=⟨ops[i],by simp [hi]⟩
      have hxd:=hod x (List.mem_of_getElem? hx)
      have hwr:=write_fn O now x (by omega) (docsOk_iff.1 g2).2 (fun n hn=>by have:=docsOk_bd g2 n hn;omega) hxd.1 hxd.2
      have hdr:ops.drop i=x::ops.drop (i+1):=by
        obtain⟨_,e⟩:=List.getElem?_eq_some_iff.1 hx
        rw[List.drop_eq_getElem_cons hi,e]
      rw[hdr,runB] at g5
      have hPd:(O.o (writeP now) x).doc.length≤1099511627:=by
        rw[O.h,writeP];simp only;split
        · simp
        · exact hxd.1
      have hAo:O.o (writeA now) x=writeA now x:=by rw[O.h]
      have hno:(O.o (writeA now) x).code≠0→R1=l∧R2=O.o (writeA now) x∧R3=[]:=fun h=>by
        rw[hAo] at h ⊢
        rw[if_pos h] at g5
        cases g5;exact⟨rfl,rfl,rfl⟩
      obtain⟨v0,hv0⟩:∃ v:Int,v=total+out.length+1:=⟨_,rfl⟩
      have hyes:(O.o (writeA now) x).code=0→docsOk (O.o (foldD now) ⟨v0,(O.o (writeP now) x).key,(O.o (writeP now) x).has,(O.o (writeP now) x).doc⟩)=true∧(O.o (foldD now) ⟨v0,(O.o (writeP now) x).key,(O.o (writeP now) x).has,(O.o (writeP now) x).doc⟩).length≤1000+(i+1)∧runB l total (ops.drop (i+1)) (O.o (foldD now) ⟨v0,(O.o (writeP now) x).key,(O.o (writeP now) x).has,(O.o (writeP now) x).doc⟩) (out++[⟨v0,(O.o (writeP now) x).key,(O.o (writeP now) x).has,(O.o (writeP now) x).doc⟩])=(R1,R2,R3):=fun h=>by
        rw[hAo] at h
        rw[if_neg (by simp [h])] at g5
        have hP:O.o (writeP now) x=writeC x:=by rw[O.h];exact(writeA_ok h).2.1
        obtain⟨k1,k2⟩:=fold_write_ok g2 h
        rw[hP,O.h (foldD now)]
        have e:(⟨v0,(writeC x).key,(writeC x).has,(writeC x).doc⟩:Change)={ writeC x with pos:=total+out.length+1 }:=by rw[← hv0]
        rw[e]
        exact ⟨k1, by have : (foldD now { writeC x with pos := total + out.length + 1 }).length ≤ now.length + 1 := k2
                      omega,g5⟩
      obtain⟨A,eA⟩:∃ A,A=O.o (writeA now) x:=⟨_,rfl⟩
      obtain⟨P,eP⟩:∃ A,A=O.o (writeP now) x:=⟨_,rfl⟩
      rw[← eA,← eP] at hwr hyes
      rw[← eA] at hno
      rw[← eP] at hPd
      have hfo:=fun(v:Int) (hv:v=v0)=>fold_fn O now ⟨v,P.key,P.has,P.doc⟩ (by omega) (docsOk_iff.1 g2).2 (fun n hn=>by have:=docsOk_bd g2 n hn;omega) hPd
      have hfo:∀ v:Int,v=v0→Fn prog 147 [.sl false 0 false 2 (O.o (Nms.enc O) now),.agg (Change.enc O ⟨v,P.key,P.has,P.doc⟩)] [] [.sl false 0 false 2 (O.o (Nms.enc O) (O.o (foldD now) ⟨v0,P.key,P.has,P.doc⟩))] []:=fun v hv=>by
        have:=hfo v hv;rwa [hv] at this ⊢
      obtain⟨nw2,en2⟩:∃ n,n=O.o (foldD now) ⟨v0,P.key,P.has,P.doc⟩:=⟨_,rfl⟩
      rw[← en2] at hyes hfo
      have hsn:=Chs.snoc O out ⟨v0,P.key,P.has,P.doc⟩
      obtain⟨out2,eo2⟩:∃ n,n=out++[⟨v0,P.key,P.has,P.doc⟩]:=⟨_,rfl⟩
      have hol2:out2.length=i+1:=by rw[eo2];simp [g4]
      rw[← eo2] at hyes hsn
      clear hdr g5 hAo eA eP hod en2 eo2 hPd g2 hm hxd
      obtain⟨pp,pk,ph,pd⟩:=P
      obtain⟨kind,key,to,doc,want,has,n,most,list,docs,news⟩:=x
      by_cases hcode:A.code=0
      · obtain⟨y1,y2,y3⟩:=hyes hcode
        clear hyes hno
        (repeat' first|(refine Na ?_ fun _ _=>?_;(focus lia);cbv)|(refine Ex.opn O hx ?_ ?_;(focus lia);cbv)|(refine CallThen.mk _ _ (C.fn (hwr)) ?_;cbv)|(refine CallThen.mk _ _ (C.fn (hfo _ (by clear hx hwr y3 hsn;lia))) ?_;cbv)|(refine Back.to (i+1,nw2,out2) [(50,.loc 3904)] [] ?_ fun _ _=>?_;rotate_left;cbv)|(refine Nl fun _ _ hq=>?_;(try simp only [lenS] at hq);cbv)|(refine Nm fun _ _=>?_;cbv)|(refine Br.t ?_ ?_;(focus first|assumption|lia);cbv)|(refine Br.f ?_ ?_;(focus first|assumption|lia);cbv)|(refine Br.mk (fun _=>?_) (fun _=>?_)<;>cbv)|(refine Need.mk ?_ ?_;rotate_left;cbv)|(refine R0 ?_;cbv))
        all_goals try first
          | (exfalso;clear hx hwr y3 hsn hfo;lia)
          | (clear hx hwr y3 hsn hfo;lia)
          | (simp only [List.length_cons,List.length_nil];clear hx hwr y3 hsn hfo;lia)
          | exact⟨⟨by show i+1≤N;omega,y1,y2,hol2,y3⟩,by show N-(i+1)<N-i;omega⟩
        all_goals
          rename_i n1 e1 n2 e2 n3 e3 R hR q1 q2 y ey
          subst ey
          have ev:n3=v0:=by clear hx hwr y3 hsn hfo hR;lia
          rw[ev] at hR
          (repeat' apply And.intro)<;>first|exact True.intro|exact WkR.refl _|exact WkR.of_eq (hsn.trans hR.symm)|(dsimp only;clear hx hwr y3 hsn hfo;lia)|trace_state
      · obtain⟨r1,r2,r3⟩:=hno hcode
        clear hyes hno hfo hsn
        (repeat' first|(refine Na ?_ fun _ _=>?_;(focus lia);cbv)|(refine Ex.opn O hx ?_ ?_;(focus lia);cbv)|(refine CallThen.mk _ _ (C.fn (hwr)) ?_;cbv)|(refine RetThen.mk [(0,.nil 4)] [] ?_;cbv)|(refine Nl fun _ _ hq=>?_;(try simp only [lenS] at hq);cbv)|(refine Nm fun _ _=>?_;cbv)|(refine Br.t ?_ ?_;(focus first|assumption|lia);cbv)|(refine Br.f ?_ ?_;(focus first|assumption|lia);cbv)|(refine Br.mk (fun _=>?_) (fun _=>?_)<;>cbv)|(refine Need.mk ?_ ?_;rotate_left;cbv)|(refine R0 ?_;cbv))
        all_goals try first
          | (exfalso;clear hx hwr r2;lia)
          | (clear hx hwr r2;lia)
        all_goals
          rw[r1,r2,r3]
          (repeat' apply And.intro)<;>first|rfl|exact WkR.refl _|exact h2|exact True.intro|trace_state
    · have hd:ops.drop i=[]:=List.drop_of_length_le (by omega)
      rw[hd,runB] at g5
      have hr:R1=now∧R2=⟨0,false,[],[],[],total+out.length,0,[]⟩∧R3=out:=by cases g5;exact⟨rfl,rfl,rfl⟩
      obtain⟨r1,r2,r3⟩:=hr
      clear g5 hod
      (repeat' first|(refine Na ?_ fun _ _=>?_;(focus lia);cbv)|(refine RetThen.mk [(0,.loc 50)] [] ?_;cbv)|(refine Nl fun _ _ hq=>?_;(try simp only [lenS] at hq);cbv)|(refine Nm fun _ _=>?_;cbv)|(refine Br.t ?_ ?_;(focus first|assumption|lia);cbv)|(refine Br.f ?_ ?_;(focus first|assumption|lia);cbv)|(refine Br.mk (fun _=>?_) (fun _=>?_)<;>cbv)|(refine Need.mk ?_ ?_;rotate_left;cbv)|(refine R0 ?_;cbv))
      all_goals try(exfalso;clear r2;lia)
      all_goals
        rw[r1,r2,r3]
        (repeat' apply And.intro)<;>first|rfl|exact WkR.refl _|exact h0|exact h1|exact h2|exact h3|exact True.intro|(dsimp only;clear r2;lia)|trace_state
theorem wk_ops1 (O:Opq) (o:Opn):[o.en O]=O.o (Ops.enc O) [o]:=by rw[O.h,Ops.en_eq O];rfl
end Go.Sym
